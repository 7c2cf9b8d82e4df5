import Derived.Test.YtkkhjbdnpobpnaaBase
import Derived.Test.YtkkhjbdnpobpnaaMaskA
import Derived.Deep.OwnRows
/- Several of my texts, one behind the other: Cells, MaskB, After, MaskC. -/
/- Cells of bools; when two lists are told to be the same. -/
set_option linter.unusedSimpArgs false
set_option linter.unusedVariables false
namespace Go.Proofs.Ytkkhjbdnpobpnaa
open Go.RowKit
def boolCells (l : List Bool) : List Value := l.map Value.bool
theorem boolCells_get {l : List Bool} {k : Nat} (h : k < l.length) : (boolCells l)[k]? = some (.bool l[k]) := by simp [boolCells, h]
end Go.Proofs.Ytkkhjbdnpobpnaa

/- Copies of points and masks, their comparison, their size. -/
set_option linter.unusedSimpArgs false
set_option linter.unusedVariables false
namespace Go.Proofs.Ytkkhjbdnpobpnaa
open Go.RowKit

theorem info_bool : (Try.prog.info? 4).map (fun i => (i.zero, i.size, i.bytes)) = some (some (.bool false), 1, 1) := by kernel_rfl
theorem info_bool' : ∃ i, Try.prog.info? 4 = some i ∧ i.zero = some (.bool false) ∧ i.size = 1 ∧ i.bytes = 1 := by
  have h := info_bool
  cases hi : Try.prog.info? 4 with
  | none => rw [hi] at h; cases h
  | some i =>
    rw [hi] at h
    simp only [Option.map_some, Option.some.injEq, Prod.mk.injEq] at h
    exact ⟨i, rfl, h.1, h.2.1, h.2.2⟩

/-- `k` cells are done, the others are as they were made. -/
def boolPart (l : List Bool) (k : Nat) : List Value := boolCells (l.take k) ++ List.replicate (l.length - k) (Value.bool false)
theorem boolPart_step (l : List Bool) (k : Nat) (h : k < l.length) : (boolPart l k).set k (.bool l[k]) = boolPart l (k + 1) := by
  have e : l.length - k = (l.length - (k + 1)) + 1 := by omega
  have hl : (boolCells (l.take k)).length = k := by simp [boolCells]; omega
  unfold boolPart
  rw [e, List.replicate_succ, List.set_append_right _ _ (by omega), hl, Nat.sub_self, List.set_cons_zero, List.take_succ_eq_append_getElem h]
  simp only [boolCells, List.map_append, List.map_cons, List.map_nil, List.append_assoc, List.singleton_append]
theorem boolPart_old (l : List Bool) (k : Nat) (h : k < l.length) : (boolPart l k)[k]? = some (.bool false) := by
  have hl : (boolCells (l.take k)).length = k := by simp [boolCells]; omega
  unfold boolPart
  rw [List.getElem?_append_right (by omega), hl, Nat.sub_self, List.getElem?_replicate, if_pos (by omega)]

section
variable (x y W H x' y' W' H' : Int) (l l' : List Bool) (a a' : Option Addr) (n c n' c' : Nat) (w : World)
end
end Go.Proofs.Ytkkhjbdnpobpnaa

set_option linter.unusedSimpArgs false
set_option linter.unusedVariables false
namespace Go.Proofs.Ytkkhjbdnpobpnaa
open Go.RowKit
/-! ### Worlds in which only the blocks from 'lo' on and below 'hi' have turned, and new ones have come -/
structure Between (lo hi : Nat) (w w' : World) : Prop where
  os : w'.os = w.os
  tape : w'.tape = w.tape
  output : w'.output = w.output
  size : w.heap.size ≤ w'.heap.size
  block : ∀ k, k < w.heap.size → (k < lo ∨ hi ≤ k) → w'.heap[k]? = w.heap[k]?
theorem Between.refl (lo hi : Nat) (w : World) : Between lo hi w w := ⟨rfl, rfl, rfl, Nat.le_refl _, fun _ _ _ => rfl⟩
theorem Between.set {lo hi : Nat} {a w : World} (h : Between lo hi a w) {p : Addr} (h1 : lo ≤ p.block) (h2 : p.block < hi) (u : Value) : Between lo hi a (w.setCell p u) :=
  ⟨h.os, h.tape, h.output, by simpa [World.setCell] using h.size, fun k hk hor => (Below.heap_setCell w p u k (by omega)).trans (h.block k hk hor)⟩
theorem Between.drew {lo hi : Nat} {a w : World} (h : Between lo hi a w) : Between lo hi a w.drew := ⟨h.os, h.tape, h.output, h.size, h.block⟩
theorem Between.drewN {lo hi : Nat} {a w : World} (h : Between lo hi a w) (n : Nat) : Between lo hi a (w.drewN n) := ⟨h.os, h.tape, h.output, h.size, h.block⟩
theorem Between.later {lo hi : Nat} {a w w' : World} (h : Between lo hi a w) (hb : Below w.heap.size w w') : Between lo hi a w' :=
  ⟨hb.os.trans h.os, hb.tape.trans h.tape, hb.output.trans h.output, Nat.le_trans h.size hb.size, fun k hk hor => (hb.block k (Nat.lt_of_lt_of_le hk h.size)).trans (h.block k hk hor)⟩
theorem Between.trans {lo hi : Nat} {a b c : World} (h : Between lo hi a b) (k : Between lo hi b c) : Between lo hi a c :=
  ⟨k.os.trans h.os, k.tape.trans h.tape, k.output.trans h.output, Nat.le_trans h.size k.size, fun i hi' hor => (k.block i (Nat.lt_of_lt_of_le hi' h.size) hor).trans (h.block i hi' hor)⟩
theorem Between.cell {lo hi : Nat} {w w' : World} (h : Between lo hi w w') {p : Addr} (hp : p.block < w.heap.size) (ho : p.block < lo ∨ hi ≤ p.block) : w'.cell? p = w.cell? p := World.cell?_of_block (w := w) (h.block p.block hp ho)
theorem Between.frozen {lo hi : Nat} {w w' : World} (h : Between lo hi w w') {p : Addr} (hp : p.block < w.heap.size) (ho : p.block < lo ∨ hi ≤ p.block) : w'.frozen? p = w.frozen? p := World.frozen?_of_block (w := w) (h.block p.block hp ho)
/-- A world that came out of `W` by writes between `lo` and `hi` alone. -/
structure After (W : World) (lo hi : Nat) where
  w : World
  btw : Between lo hi W w
instance (W : World) (lo hi : Nat) : Nonempty (After W lo hi) := ⟨⟨W, Between.refl _ _ _⟩⟩
@[irreducible] def After.far {W : World} {lo hi : Nat} (x : After W lo hi) (a : Addr) : Option Value := x.w.cell? a
@[irreducible] def After.farFrozen {W : World} {lo hi : Nat} (x : After W lo hi) (a : Addr) : Bool := x.w.frozen? a
theorem After.cell {W : World} {lo hi : Nat} (x : After W lo hi) (b o : Nat) (s : Option Nat) :
    x.w.cell? ⟨b, o, s⟩ = if b < W.heap.size then (if b < lo then W.cell? ⟨b, o, s⟩ else if hi ≤ b then W.cell? ⟨b, o, s⟩ else x.far ⟨b, o, s⟩) else x.far ⟨b, o, s⟩ := by
  split
  · split
    · rename_i h1 h2; exact x.btw.cell h1 (.inl h2)
    · split
      · rename_i h1 h2 h3; exact x.btw.cell h1 (.inr h3)
      · unfold After.far; rfl
  · unfold After.far; rfl
theorem After.frozen {W : World} {lo hi : Nat} (x : After W lo hi) (b o : Nat) (s : Option Nat) :
    x.w.frozen? ⟨b, o, s⟩ = if b < W.heap.size then (if b < lo then W.frozen? ⟨b, o, s⟩ else if hi ≤ b then W.frozen? ⟨b, o, s⟩ else x.farFrozen ⟨b, o, s⟩) else x.farFrozen ⟨b, o, s⟩ := by
  split
  · split
    · rename_i h1 h2; exact x.btw.frozen h1 (.inl h2)
    · split
      · rename_i h1 h2 h3; exact x.btw.frozen h1 (.inr h3)
      · unfold After.farFrozen; rfl
  · unfold After.farFrozen; rfl
attribute [go_sem] After.cell After.frozen
theorem After.out {w W : World} {lo hi : Nat} (x : After W lo hi) (h : Below w.heap.size w W) (hlo : w.heap.size ≤ lo) : Below w.heap.size w x.w :=
  ⟨x.btw.os.trans h.os, x.btw.tape.trans h.tape, x.btw.output.trans h.output, Nat.le_trans h.size x.btw.size, fun k hk => (x.btw.block k (Nat.lt_of_lt_of_le hk h.size) (.inl (by omega))).trans (h.block k hk)⟩
/-- A row that lies elsewhere is as it was. -/
theorem own_btw {w w' : World} {lo hi base e s n : Nat} {v : Value} {xs : List Value} (h : w.ownsRow base e s v n xs) (hb : Between lo hi w w') (ho : ∀ k, v.ownBlock = some k → k < lo ∨ hi ≤ k) : w'.ownsRow base e s v n xs := by
  refine ⟨h.1, ?_⟩
  rcases h.2 with h2 | ⟨g, cap, cur, rfl, hg, hh, r⟩
  · exact .inl h2
  · exact .inr ⟨g, cap, cur, rfl, hg, (hb.block g (Array.getElem?_eq_some_iff.1 hh).1 (ho g rfl)).trans hh, r⟩
theorem Row.btw {w w' : World} {lo hi : Nat} {a : Option Addr} {xs : List Value} (h : Row w a xs) (hb : Between lo hi w w') (ho : ∀ p : Addr, a = some p → p.block < lo ∨ hi ≤ p.block) : Row w' a xs := fun j v hj => by
  obtain ⟨b, o, rfl, hc⟩ := h j v hj
  exact ⟨b, o, rfl, (hb.cell (World.block_lt_of_cell? w _ hc) (ho ⟨b, o, none⟩ rfl)).trans hc⟩
/-- A slice that is owned from `lo` on and lies below `hi`. -/
structure Owns (w : World) (lo hi e s n : Nat) (a : Option Addr) (c : Nat) (xs : List Value) : Prop where
  own : w.ownsRow lo e s (.slice a n c) n xs
  lt : ∀ p : Addr, a = some p → p.block < hi
theorem Owns.of {w : World} {lo e s n : Nat} {a : Option Addr} {c : Nat} {xs : List Value} (h : w.ownsRow lo e s (.slice a n c) n xs) : Owns w lo w.heap.size e s n a c xs :=
  ⟨h, fun p hp => by subst hp; exact (h.lt p.block rfl).2⟩
theorem Owns.ge {w : World} {lo hi e s n : Nat} {a : Option Addr} {c : Nat} {xs : List Value} (h : Owns w lo hi e s n a c xs) : ∀ p : Addr, a = some p → lo ≤ p.block := fun p hp => by subst hp; exact (h.own.lt p.block rfl).1
theorem Owns.bel {w w' : World} {lo hi e s n B : Nat} {a : Option Addr} {c : Nat} {xs : List Value} (h : Owns w lo hi e s n a c xs) (hb : Below B w w') (hB : hi ≤ B) : Owns w' lo hi e s n a c xs :=
  ⟨by
    refine ⟨h.own.1, ?_⟩
    rcases h.own.2 with h2 | ⟨g, cap, cur, hv, hg, hh, r⟩
    · exact .inl h2
    · refine .inr ⟨g, cap, cur, hv, hg, (hb.block g ?_).trans hh, r⟩
      have : a = some ⟨g, 0, none⟩ := by injection hv
      have := h.lt _ this
      simp only at this
      omega, h.lt⟩
theorem Owns.btw {w w' : World} {lo hi lo' hi' e s n : Nat} {a : Option Addr} {c : Nat} {xs : List Value} (h : Owns w lo hi e s n a c xs) (hb : Between lo' hi' w w') (ho : hi ≤ lo' ∨ hi' ≤ lo) : Owns w' lo hi e s n a c xs :=
  ⟨own_btw h.own hb fun k hk => by
    cases a with
    | none => simp [Value.ownBlock] at hk
    | some p =>
      simp only [Value.ownBlock, Option.some.injEq] at hk
      have h1 := h.lt p rfl
      have h2 := h.ge p rfl
      subst hk
      omega, h.lt⟩
theorem Owns.row {w : World} {lo hi e s n : Nat} {a : Option Addr} {c : Nat} {xs : List Value} (h : Owns w lo hi e s n a c xs) : Row w a xs := Row.of_own h.own
theorem Owns.at_ {w : World} {lo hi e s n j : Nat} {a : Option Addr} {c : Nat} {xs : List Value} (h : Owns w lo hi e s n a c xs) (hj : j < n * s) :
    ∃ g, a = some ⟨g, 0, none⟩ ∧ lo ≤ g ∧ g < hi ∧ w.cell? ⟨g, j, none⟩ = xs[j]? ∧ w.frozen? ⟨g, j, none⟩ = false := by
  have hn : 0 < n := by rcases Nat.eq_zero_or_pos n with h0 | h0; (subst h0; simp at hj); exact h0
  obtain ⟨g, ha⟩ : ∃ g, a = some ⟨g, 0, none⟩ := by
    rcases h.own.2 with ⟨_, h0⟩ | ⟨g, cap, cur, hv, _⟩
    · omega
    · exact ⟨g, by injection hv⟩
  subst ha
  exact ⟨g, rfl, h.ge _ rfl, h.lt _ rfl, h.own.cellAt j hj, h.own.frozenAt j⟩
theorem Owns.set {w : World} {lo hi e s n j g : Nat} {c : Nat} {xs : List Value} (h : Owns w lo hi e s n (some ⟨g, 0, none⟩) c xs) (u : Value) : Owns (w.setCell ⟨g, j, none⟩ u) lo hi e s n (some ⟨g, 0, none⟩) c (xs.set j u) :=
  ⟨(h.own.stored j u).1, h.lt⟩
theorem Owns.drewN {w : World} {lo hi e s n : Nat} {a : Option Addr} {c : Nat} {xs : List Value} (h : Owns w lo hi e s n a c xs) (k : Nat) : Owns (w.drewN k) lo hi e s n a c xs := h.bel (B := hi) ⟨rfl, rfl, rfl, Nat.le_refl _, fun _ _ => rfl⟩ (Nat.le_refl _)
/-- A world in which the blocks below `B` are as they were. -/
structure LaterB (B : Nat) (W : World) where
  w : World
  bel : Below B W w
instance (B : Nat) (W : World) : Nonempty (LaterB B W) := ⟨⟨W, Below.refl _ _⟩⟩
@[irreducible] def LaterB.far {B : Nat} {W : World} (x : LaterB B W) (a : Addr) : Option Value := x.w.cell? a
theorem LaterB.cell {B : Nat} {W : World} (x : LaterB B W) (b o : Nat) (s : Option Nat) : x.w.cell? ⟨b, o, s⟩ = if b < B then W.cell? ⟨b, o, s⟩ else x.far ⟨b, o, s⟩ := by
  split
  · rename_i h; exact x.bel.cell h
  · unfold LaterB.far; rfl
attribute [go_sem] LaterB.cell
def LaterBC (B : Nat) (W w' : World) : Prop := ∃ x : LaterB B W, w' = x.w
attribute [go_sem] LaterBC
theorem LaterBC.mk {B : Nat} {W w' : World} (h : Below B W w') : LaterBC B W w' := ⟨⟨w', h⟩, rfl⟩
theorem below_common {B : Nat} {w0 W w' : World} (h1 : Below B w0 W) (h2 : Below B w0 w') (hs : W.heap.size ≤ w'.heap.size) : Below B W w' :=
  ⟨h2.os.trans h1.os.symm, h2.tape.trans h1.tape.symm, h2.output.trans h1.output.symm, hs, fun k hk => (h2.block k hk).trans (h1.block k hk).symm⟩
theorem btw_later {lo hi : Nat} {a W : World} (x : Later W) (h : Between lo hi a W) : Between lo hi a x.w := h.later x.bel
theorem btw_alloc {lo hi : Nat} {a W : World} (h : Between lo hi a W) (o : Obj) : Between lo hi a (W.alloc o) := h.later ((Below.refl _ _).alloc (Nat.le_refl _) o)
theorem btw_after {lo hi : Nat} {a W : World} (x : After W lo hi) (h : Between lo hi a W) : Between lo hi a x.w := h.trans x.btw
def AfterC (lo hi : Nat) (W w' : World) : Prop := ∃ x : After W lo hi, w' = x.w
attribute [go_sem] AfterC
theorem AfterC.mk {lo hi : Nat} {W w' : World} (h : Between lo hi W w') : AfterC lo hi W w' := ⟨⟨w', h⟩, rfl⟩
end Go.Proofs.Ytkkhjbdnpobpnaa

/- Marks over slices of bools, empty masks. -/
set_option linter.unusedSimpArgs false
set_option linter.unusedVariables false
namespace Go.Proofs.Ytkkhjbdnpobpnaa
open Go.RowKit
section
variable (x y W H : Int) (a : Option Addr) (n n' c lo hi : Nat) (k : Int) (xs : List Value) (w : World)
set_option maxHeartbeats 400000 in
theorem empty_any (hm : n ≤ 1048576) :
    Calls Try.prog 45 #[.agg #[.int .i64 x, .int .i64 y, .int .i64 W, .int .i64 H, .slice a n c]] w (RetOwn w 4 1 n (List.replicate n (.bool false)) fun v => .agg #[.int .i64 x, .int .i64 y, .int .i64 W, .int .i64 H, v]) := by
  have hmk := run_make_row' (P := Try.prog) 26 4 (.bool false) 1 Try.underlying26 info_bool rfl .i64 .i64 n (by omega) (by omega)
  go_enter Try.func45, Try.ntmps45
  go_wp2
  refine wp_region_plan [(0, true), (1, true), (2, true), (3, true), (4, true), (5, true), (6, true), (7, true), (8, false), (9, false), (10, true), (11, false)] (C := LaterBC (w.heap.size + 1) _) (by kernel_rfl) (by kernel_rfl) (by kernel_rfl) rfl (fun _ _ d _ _ h => by cases d <;> exact h) (LaterBC.mk ((Below.refl _ _).drew)) ?_
  first | (refine plan_quiet nth0 rfl ?_; intro KP hKP; go_big_quiet_op; go_big_quiet_on) | (refine plan_skip_q nth0 rfl rfl ?_; simp only [Act.put, List.setIfInBounds_toArray, List.set_cons_zero, List.set_cons_succ])
  first | (refine plan_quiet nth1 rfl ?_; intro KP hKP; go_big_quiet_op; go_big_quiet_on) | (refine plan_skip_q nth1 rfl rfl ?_; simp only [Act.put, List.setIfInBounds_toArray, List.set_cons_zero, List.set_cons_succ])
  first | (refine plan_quiet nth2 rfl ?_; intro KP hKP; go_big_quiet_op; go_big_quiet_on) | (refine plan_skip_q nth2 rfl rfl ?_; simp only [Act.put, List.setIfInBounds_toArray, List.set_cons_zero, List.set_cons_succ])
  first | (refine plan_quiet nth3 rfl ?_; intro KP hKP; go_big_quiet_op; go_big_quiet_on) | (refine plan_skip_q nth3 rfl rfl ?_; simp only [Act.put, List.setIfInBounds_toArray, List.set_cons_zero, List.set_cons_succ])
  first | (refine plan_quiet nth4 rfl ?_; intro KP hKP; go_big_quiet_op; go_big_quiet_on) | (refine plan_skip_q nth4 rfl rfl ?_; simp only [Act.put, List.setIfInBounds_toArray, List.set_cons_zero, List.set_cons_succ])
  first | (refine plan_quiet nth5 rfl ?_; intro KP hKP; go_big_quiet_op; go_big_quiet_on) | (refine plan_skip_q nth5 rfl rfl ?_; simp only [Act.put, List.setIfInBounds_toArray, List.set_cons_zero, List.set_cons_succ])
  first | (refine plan_quiet nth6 rfl ?_; intro KP hKP; go_big_quiet_op; go_big_quiet_on) | (refine plan_skip_q nth6 rfl rfl ?_; simp only [Act.put, List.setIfInBounds_toArray, List.set_cons_zero, List.set_cons_succ])
  first | (refine plan_quiet nth7 rfl ?_; intro KP hKP; go_big_quiet_op; go_big_quiet_on) | (refine plan_skip_q nth7 rfl rfl ?_; simp only [Act.put, List.setIfInBounds_toArray, List.set_cons_zero, List.set_cons_succ])
  first | (refine plan_loud nth8 rfl ?_; intro KP hKP; go_wp2_with fail; refine hKP _ _ (LaterBC.mk (by exact below_common ((Below.refl _ _).alloc (by simp only [World.size_alloc]; omega) _) (by (repeat (first | (with_reducible exact Below.refl _ _) | (with_reducible refine Below.drew ?_) | (with_reducible refine Below.alloc ?_ ?_ _) | (with_reducible refine Below.setCell ?_ ?_ _) | (with_reducible assumption) | (simp only [World.size_alloc, World.size_setCell, World.size_drew]; omega) | (dsimp only; omega) | omega))) (by simp only [World.size_alloc, World.size_setCell, World.size_drew]; omega))) ?_; clear hKP KP) | (refine plan_skip nth8 rfl rfl (LaterBC.mk (by exact below_common ((Below.refl _ _).alloc (by simp only [World.size_alloc]; omega) _) (by (repeat (first | (with_reducible exact Below.refl _ _) | (with_reducible refine Below.drew ?_) | (with_reducible refine Below.alloc ?_ ?_ _) | (with_reducible refine Below.setCell ?_ ?_ _) | (with_reducible assumption) | (simp only [World.size_alloc, World.size_setCell, World.size_drew]; omega) | (dsimp only; omega) | omega))) (by simp only [World.size_alloc, World.size_setCell, World.size_drew]; omega))) ?_; simp only [Act.put, List.setIfInBounds_toArray, List.set_cons_zero, List.set_cons_succ])
  first | (refine plan_loud nth9 rfl ?_; intro KP hKP; go_wp2_with fail; refine hKP _ _ (LaterBC.mk (by exact below_common ((Below.refl _ _).alloc (by simp only [World.size_alloc]; omega) _) (by (repeat (first | (with_reducible exact Below.refl _ _) | (with_reducible refine Below.drew ?_) | (with_reducible refine Below.alloc ?_ ?_ _) | (with_reducible refine Below.setCell ?_ ?_ _) | (with_reducible assumption) | (simp only [World.size_alloc, World.size_setCell, World.size_drew]; omega) | (dsimp only; omega) | omega))) (by simp only [World.size_alloc, World.size_setCell, World.size_drew]; omega))) ?_; clear hKP KP) | (refine plan_skip nth9 rfl rfl (LaterBC.mk (by exact below_common ((Below.refl _ _).alloc (by simp only [World.size_alloc]; omega) _) (by (repeat (first | (with_reducible exact Below.refl _ _) | (with_reducible refine Below.drew ?_) | (with_reducible refine Below.alloc ?_ ?_ _) | (with_reducible refine Below.setCell ?_ ?_ _) | (with_reducible assumption) | (simp only [World.size_alloc, World.size_setCell, World.size_drew]; omega) | (dsimp only; omega) | omega))) (by simp only [World.size_alloc, World.size_setCell, World.size_drew]; omega))) ?_; simp only [Act.put, List.setIfInBounds_toArray, List.set_cons_zero, List.set_cons_succ])
  first | (refine plan_quiet nth10 rfl ?_; intro KP hKP; go_big_quiet_op; go_big_quiet_on) | (refine plan_skip_q nth10 rfl rfl ?_; simp only [Act.put, List.setIfInBounds_toArray, List.set_cons_zero, List.set_cons_succ])
  first | (refine plan_loud nth11 rfl ?_; intro KP hKP; go_wp2_with fail; refine hKP _ _ (LaterBC.mk (by exact below_common ((Below.refl _ _).alloc (by simp only [World.size_alloc]; omega) _) (by (repeat (first | (with_reducible exact Below.refl _ _) | (with_reducible refine Below.drew ?_) | (with_reducible refine Below.alloc ?_ ?_ _) | (with_reducible refine Below.setCell ?_ ?_ _) | (with_reducible assumption) | (simp only [World.size_alloc, World.size_setCell, World.size_drew]; omega) | (dsimp only; omega) | omega))) (by simp only [World.size_alloc, World.size_setCell, World.size_drew]; omega))) ?_; clear hKP KP) | (refine plan_skip nth11 rfl rfl (LaterBC.mk (by exact below_common ((Below.refl _ _).alloc (by simp only [World.size_alloc]; omega) _) (by (repeat (first | (with_reducible exact Below.refl _ _) | (with_reducible refine Below.drew ?_) | (with_reducible refine Below.alloc ?_ ?_ _) | (with_reducible refine Below.setCell ?_ ?_ _) | (with_reducible assumption) | (simp only [World.size_alloc, World.size_setCell, World.size_drew]; omega) | (dsimp only; omega) | omega))) (by simp only [World.size_alloc, World.size_setCell, World.size_drew]; omega))) ?_; simp only [Act.put, List.setIfInBounds_toArray, List.set_cons_zero, List.set_cons_succ])
  refine plan_nil ?_
  go_wp2
  refine bodyPost_ret (by simp [results, Try.results45, go_sem, ↓IntWalk.iteOmega, *]; try rfl) rfl ?_
  refine RetOwn.mk _ rfl ?_ ?_
  · refine World.ownsRow.drew ?_
    have h := World.ownsRow_lit (base := w.heap.size) (e := 4) (size := 1) ((w.alloc (.cells #[.int .i64 x, .int .i64 y, .int .i64 W, .int .i64 H, .slice a n c] 28)).alloc (.cells #[.int .i64 x, .int .i64 y, .int .i64 W, .int .i64 H, .slice (some ⟨w.heap.size + 1 + 1, 0, none⟩) n n] 28)) (madeCells #[Value.bool false] n) n (by simp only [World.size_alloc]; omega) (by unfold maxLen; omega) (by simp [size_madeCells])
    rw [toList_madeCells_one] at h
    simpa only [World.size_alloc] using h
  · (repeat (first | (with_reducible exact Below.refl _ _) | (with_reducible assumption) | (with_reducible refine Later.out _ ?_) | (with_reducible refine bel_alloc ?_ _) | (with_reducible refine bel_drew ?_) | (with_reducible refine bel_drewN ?_ _) | (with_reducible refine bel_set ?_ ?_ _) | (with_reducible refine After.out _ ?_ ?_) | (dsimp only; omega) | omega | (simp only [World.size_alloc, World.size_setCell, World.size_drew]; omega)))
set_option maxHeartbeats 400000 in
theorem sEmpty_any (hn : W * H = n) (hm : n ≤ 1048576) :
    Calls Try.prog 33 #[.agg #[.int .i64 x, .int .i64 y, .int .i64 W, .int .i64 H, .slice a n' c]] w (RetOwn w 4 1 n (List.replicate n (.bool false)) fun v => .agg #[.int .i64 x, .int .i64 y, .int .i64 W, .int .i64 H, v]) := by
  have hmk := run_make_row' (P := Try.prog) 26 4 (.bool false) 1 Try.underlying26 info_bool rfl .i64 .i64 n (by omega) (by omega)
  go_enter Try.func33, Try.ntmps33
  go_wp2
  have l1 : -9223372036854775808 ≤ W * H := by omega
  have l2 : W * H ≤ 9223372036854775807 := by omega
  refine wp_region_plan [(0, true), (1, true), (2, true), (3, true), (4, true), (5, true), (6, true), (7, true), (8, true), (9, true), (10, true), (11, false), (12, true), (13, false)] (C := LaterBC (w.heap.size + 1) _) (by kernel_rfl) (by kernel_rfl) (by kernel_rfl) rfl (fun _ _ d _ _ h => by cases d <;> exact h) (LaterBC.mk ((Below.refl _ _).drew)) ?_
  first | (refine plan_quiet nth0 rfl ?_; intro KP hKP; go_big_quiet_op; go_big_quiet_on) | (refine plan_skip_q nth0 rfl rfl ?_; simp only [Act.put, List.setIfInBounds_toArray, List.set_cons_zero, List.set_cons_succ])
  first | (refine plan_quiet nth1 rfl ?_; intro KP hKP; go_big_quiet_op; go_big_quiet_on) | (refine plan_skip_q nth1 rfl rfl ?_; simp only [Act.put, List.setIfInBounds_toArray, List.set_cons_zero, List.set_cons_succ])
  first | (refine plan_quiet nth2 rfl ?_; intro KP hKP; go_big_quiet_op; go_big_quiet_on) | (refine plan_skip_q nth2 rfl rfl ?_; simp only [Act.put, List.setIfInBounds_toArray, List.set_cons_zero, List.set_cons_succ])
  first | (refine plan_quiet nth3 rfl ?_; intro KP hKP; go_big_quiet_op; go_big_quiet_on) | (refine plan_skip_q nth3 rfl rfl ?_; simp only [Act.put, List.setIfInBounds_toArray, List.set_cons_zero, List.set_cons_succ])
  first | (refine plan_quiet nth4 rfl ?_; intro KP hKP; go_big_quiet_op; go_big_quiet_on) | (refine plan_skip_q nth4 rfl rfl ?_; simp only [Act.put, List.setIfInBounds_toArray, List.set_cons_zero, List.set_cons_succ])
  first | (refine plan_quiet nth5 rfl ?_; intro KP hKP; go_big_quiet_op; go_big_quiet_on) | (refine plan_skip_q nth5 rfl rfl ?_; simp only [Act.put, List.setIfInBounds_toArray, List.set_cons_zero, List.set_cons_succ])
  first | (refine plan_quiet nth6 rfl ?_; intro KP hKP; go_big_quiet_op; go_big_quiet_on) | (refine plan_skip_q nth6 rfl rfl ?_; simp only [Act.put, List.setIfInBounds_toArray, List.set_cons_zero, List.set_cons_succ])
  first | (refine plan_quiet nth7 rfl ?_; intro KP hKP; go_big_quiet_op; go_big_quiet_on) | (refine plan_skip_q nth7 rfl rfl ?_; simp only [Act.put, List.setIfInBounds_toArray, List.set_cons_zero, List.set_cons_succ])
  first | (refine plan_quiet nth8 rfl ?_; intro KP hKP; go_big_quiet_op; go_big_quiet_on) | (refine plan_skip_q nth8 rfl rfl ?_; simp only [Act.put, List.setIfInBounds_toArray, List.set_cons_zero, List.set_cons_succ])
  first | (refine plan_quiet nth9 rfl ?_; intro KP hKP; go_big_quiet_op; go_big_quiet_on) | (refine plan_skip_q nth9 rfl rfl ?_; simp only [Act.put, List.setIfInBounds_toArray, List.set_cons_zero, List.set_cons_succ])
  first | (refine plan_quiet nth10 rfl ?_; intro KP hKP; go_big_quiet_op; go_big_quiet_on) | (refine plan_skip_q nth10 rfl rfl ?_; simp only [Act.put, List.setIfInBounds_toArray, List.set_cons_zero, List.set_cons_succ])
  first | (refine plan_loud nth11 rfl ?_; intro KP hKP; go_wp2_with fail; refine hKP _ _ (LaterBC.mk (by exact below_common ((Below.refl _ _).alloc (by simp only [World.size_alloc]; omega) _) (by (repeat (first | (with_reducible exact Below.refl _ _) | (with_reducible refine Below.drew ?_) | (with_reducible refine Below.alloc ?_ ?_ _) | (with_reducible refine Below.setCell ?_ ?_ _) | (with_reducible assumption) | (simp only [World.size_alloc, World.size_setCell, World.size_drew]; omega) | (dsimp only; omega) | omega))) (by simp only [World.size_alloc, World.size_setCell, World.size_drew]; omega))) ?_; clear hKP KP) | (refine plan_skip nth11 rfl rfl (LaterBC.mk (by exact below_common ((Below.refl _ _).alloc (by simp only [World.size_alloc]; omega) _) (by (repeat (first | (with_reducible exact Below.refl _ _) | (with_reducible refine Below.drew ?_) | (with_reducible refine Below.alloc ?_ ?_ _) | (with_reducible refine Below.setCell ?_ ?_ _) | (with_reducible assumption) | (simp only [World.size_alloc, World.size_setCell, World.size_drew]; omega) | (dsimp only; omega) | omega))) (by simp only [World.size_alloc, World.size_setCell, World.size_drew]; omega))) ?_; simp only [Act.put, List.setIfInBounds_toArray, List.set_cons_zero, List.set_cons_succ])
  first | (refine plan_quiet nth12 rfl ?_; intro KP hKP; go_big_quiet_op; go_big_quiet_on) | (refine plan_skip_q nth12 rfl rfl ?_; simp only [Act.put, List.setIfInBounds_toArray, List.set_cons_zero, List.set_cons_succ])
  first | (refine plan_loud nth13 rfl ?_; intro KP hKP; go_wp2_with fail; refine hKP _ _ (LaterBC.mk (by exact below_common ((Below.refl _ _).alloc (by simp only [World.size_alloc]; omega) _) (by (repeat (first | (with_reducible exact Below.refl _ _) | (with_reducible refine Below.drew ?_) | (with_reducible refine Below.alloc ?_ ?_ _) | (with_reducible refine Below.setCell ?_ ?_ _) | (with_reducible assumption) | (simp only [World.size_alloc, World.size_setCell, World.size_drew]; omega) | (dsimp only; omega) | omega))) (by simp only [World.size_alloc, World.size_setCell, World.size_drew]; omega))) ?_; clear hKP KP) | (refine plan_skip nth13 rfl rfl (LaterBC.mk (by exact below_common ((Below.refl _ _).alloc (by simp only [World.size_alloc]; omega) _) (by (repeat (first | (with_reducible exact Below.refl _ _) | (with_reducible refine Below.drew ?_) | (with_reducible refine Below.alloc ?_ ?_ _) | (with_reducible refine Below.setCell ?_ ?_ _) | (with_reducible assumption) | (simp only [World.size_alloc, World.size_setCell, World.size_drew]; omega) | (dsimp only; omega) | omega))) (by simp only [World.size_alloc, World.size_setCell, World.size_drew]; omega))) ?_; simp only [Act.put, List.setIfInBounds_toArray, List.set_cons_zero, List.set_cons_succ])
  refine plan_nil ?_
  go_wp2
  refine bodyPost_ret (by simp [results, Try.results33, go_sem, ↓IntWalk.iteOmega, *]; try rfl) rfl ?_
  refine RetOwn.mk _ rfl ?_ ?_
  · refine World.ownsRow.drew ?_
    have h := World.ownsRow_lit (base := w.heap.size) (e := 4) (size := 1) ((w.alloc (.cells #[.int .i64 x, .int .i64 y, .int .i64 W, .int .i64 H, .slice a n' c] 28)).alloc (.cells #[.int .i64 x, .int .i64 y, .int .i64 W, .int .i64 H, .slice (some ⟨w.heap.size + 1 + 1, 0, none⟩) n n] 28)) (madeCells #[Value.bool false] n) n (by simp only [World.size_alloc]; omega) (by unfold maxLen; omega) (by simp [size_madeCells])
    rw [toList_madeCells_one] at h
    simpa only [World.size_alloc] using h
  · (repeat (first | (with_reducible exact Below.refl _ _) | (with_reducible assumption) | (with_reducible refine Later.out _ ?_) | (with_reducible refine bel_alloc ?_ _) | (with_reducible refine bel_drew ?_) | (with_reducible refine bel_drewN ?_ _) | (with_reducible refine bel_set ?_ ?_ _) | (with_reducible refine After.out _ ?_ ?_) | (dsimp only; omega) | omega | (simp only [World.size_alloc, World.size_setCell, World.size_drew]; omega)))
end
end Go.Proofs.Ytkkhjbdnpobpnaa
