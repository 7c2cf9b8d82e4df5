import Derived.Test.YtokbolgaokbdcaaDoorBase
set_option linter.unusedSimpArgs false
set_option linter.unusedVariables false
namespace Go.Proofs.YtokbolgaokbdcaaDoor
open Go.RowKit
/-! ### Worlds in which only the blocks from 'lo' on and below 'hi' have turned, and new ones have come -/
structure Between (lo hi : Nat) (w w' : World) : Prop where
  os : w'.os = w.os
  tape : w'.tape = w.tape
  output : w'.output = w.output
  size : w.heap.size ≤ w'.heap.size
  block : ∀ k, k < w.heap.size → (k < lo ∨ hi ≤ k) → w'.heap[k]? = w.heap[k]?
theorem Between.refl (lo hi : Nat) (w : World) : Between lo hi w w := ⟨rfl, rfl, rfl, Nat.le_refl _, fun _ _ _ => rfl⟩
theorem Between.set {lo hi : Nat} {a w : World} (h : Between lo hi a w) {p : Addr} (h1 : lo ≤ p.block) (h2 : p.block < hi) (u : Value) : Between lo hi a (w.setCell p u) :=
  ⟨h.os, h.tape, h.output, by simpa [World.setCell] using h.size, fun k hk hor => (Below.heap_setCell w p u k (by omega)).trans (h.block k hk hor)⟩
theorem Between.drew {lo hi : Nat} {a w : World} (h : Between lo hi a w) : Between lo hi a w.drew := ⟨h.os, h.tape, h.output, h.size, h.block⟩
theorem Between.drewN {lo hi : Nat} {a w : World} (h : Between lo hi a w) (n : Nat) : Between lo hi a (w.drewN n) := ⟨h.os, h.tape, h.output, h.size, h.block⟩
theorem Between.later {lo hi : Nat} {a w w' : World} (h : Between lo hi a w) (hb : Below w.heap.size w w') : Between lo hi a w' :=
  ⟨hb.os.trans h.os, hb.tape.trans h.tape, hb.output.trans h.output, Nat.le_trans h.size hb.size, fun k hk hor => (hb.block k (Nat.lt_of_lt_of_le hk h.size)).trans (h.block k hk hor)⟩
theorem Between.trans {lo hi : Nat} {a b c : World} (h : Between lo hi a b) (k : Between lo hi b c) : Between lo hi a c :=
  ⟨k.os.trans h.os, k.tape.trans h.tape, k.output.trans h.output, Nat.le_trans h.size k.size, fun i hi' hor => (k.block i (Nat.lt_of_lt_of_le hi' h.size) hor).trans (h.block i hi' hor)⟩
theorem Between.cell {lo hi : Nat} {w w' : World} (h : Between lo hi w w') {p : Addr} (hp : p.block < w.heap.size) (ho : p.block < lo ∨ hi ≤ p.block) : w'.cell? p = w.cell? p := World.cell?_of_block (w := w) (h.block p.block hp ho)
theorem Between.frozen {lo hi : Nat} {w w' : World} (h : Between lo hi w w') {p : Addr} (hp : p.block < w.heap.size) (ho : p.block < lo ∨ hi ≤ p.block) : w'.frozen? p = w.frozen? p := World.frozen?_of_block (w := w) (h.block p.block hp ho)
/-- A world that came out of `W` by writes between `lo` and `hi` alone. -/
structure After (W : World) (lo hi : Nat) where
  w : World
  btw : Between lo hi W w
instance (W : World) (lo hi : Nat) : Nonempty (After W lo hi) := ⟨⟨W, Between.refl _ _ _⟩⟩
@[irreducible] def After.far {W : World} {lo hi : Nat} (x : After W lo hi) (a : Addr) : Option Value := x.w.cell? a
@[irreducible] def After.farFrozen {W : World} {lo hi : Nat} (x : After W lo hi) (a : Addr) : Bool := x.w.frozen? a
theorem After.cell {W : World} {lo hi : Nat} (x : After W lo hi) (b o : Nat) (s : Option Nat) :
    x.w.cell? ⟨b, o, s⟩ = if b < W.heap.size then (if b < lo then W.cell? ⟨b, o, s⟩ else if hi ≤ b then W.cell? ⟨b, o, s⟩ else x.far ⟨b, o, s⟩) else x.far ⟨b, o, s⟩ := by
  split
  · split
    · rename_i h1 h2; exact x.btw.cell h1 (.inl h2)
    · split
      · rename_i h1 h2 h3; exact x.btw.cell h1 (.inr h3)
      · unfold After.far; rfl
  · unfold After.far; rfl
theorem After.frozen {W : World} {lo hi : Nat} (x : After W lo hi) (b o : Nat) (s : Option Nat) :
    x.w.frozen? ⟨b, o, s⟩ = if b < W.heap.size then (if b < lo then W.frozen? ⟨b, o, s⟩ else if hi ≤ b then W.frozen? ⟨b, o, s⟩ else x.farFrozen ⟨b, o, s⟩) else x.farFrozen ⟨b, o, s⟩ := by
  split
  · split
    · rename_i h1 h2; exact x.btw.frozen h1 (.inl h2)
    · split
      · rename_i h1 h2 h3; exact x.btw.frozen h1 (.inr h3)
      · unfold After.farFrozen; rfl
  · unfold After.farFrozen; rfl
attribute [go_sem] After.cell After.frozen
theorem After.out {w W : World} {lo hi : Nat} (x : After W lo hi) (h : Below w.heap.size w W) (hlo : w.heap.size ≤ lo) : Below w.heap.size w x.w :=
  ⟨x.btw.os.trans h.os, x.btw.tape.trans h.tape, x.btw.output.trans h.output, Nat.le_trans h.size x.btw.size, fun k hk => (x.btw.block k (Nat.lt_of_lt_of_le hk h.size) (.inl (by omega))).trans (h.block k hk)⟩
/-- A row that lies elsewhere is as it was. -/
theorem own_btw {w w' : World} {lo hi base e s n : Nat} {v : Value} {xs : List Value} (h : w.ownsRow base e s v n xs) (hb : Between lo hi w w') (ho : ∀ k, v.ownBlock = some k → k < lo ∨ hi ≤ k) : w'.ownsRow base e s v n xs := by
  refine ⟨h.1, ?_⟩
  rcases h.2 with h2 | ⟨g, cap, cur, rfl, hg, hh, r⟩
  · exact .inl h2
  · exact .inr ⟨g, cap, cur, rfl, hg, (hb.block g (Array.getElem?_eq_some_iff.1 hh).1 (ho g rfl)).trans hh, r⟩
theorem Row.btw {w w' : World} {lo hi : Nat} {a : Option Addr} {xs : List Value} (h : Row w a xs) (hb : Between lo hi w w') (ho : ∀ p : Addr, a = some p → p.block < lo ∨ hi ≤ p.block) : Row w' a xs := fun j v hj => by
  obtain ⟨b, o, rfl, hc⟩ := h j v hj
  exact ⟨b, o, rfl, (hb.cell (World.block_lt_of_cell? w _ hc) (ho ⟨b, o, none⟩ rfl)).trans hc⟩
/-- A slice that is owned from `lo` on and lies below `hi`. -/
structure Owns (w : World) (lo hi e s n : Nat) (a : Option Addr) (c : Nat) (xs : List Value) : Prop where
  own : w.ownsRow lo e s (.slice a n c) n xs
  lt : ∀ p : Addr, a = some p → p.block < hi
theorem Owns.of {w : World} {lo e s n : Nat} {a : Option Addr} {c : Nat} {xs : List Value} (h : w.ownsRow lo e s (.slice a n c) n xs) : Owns w lo w.heap.size e s n a c xs :=
  ⟨h, fun p hp => by subst hp; exact (h.lt p.block rfl).2⟩
theorem Owns.ge {w : World} {lo hi e s n : Nat} {a : Option Addr} {c : Nat} {xs : List Value} (h : Owns w lo hi e s n a c xs) : ∀ p : Addr, a = some p → lo ≤ p.block := fun p hp => by subst hp; exact (h.own.lt p.block rfl).1
theorem Owns.bel {w w' : World} {lo hi e s n B : Nat} {a : Option Addr} {c : Nat} {xs : List Value} (h : Owns w lo hi e s n a c xs) (hb : Below B w w') (hB : hi ≤ B) : Owns w' lo hi e s n a c xs :=
  ⟨by
    refine ⟨h.own.1, ?_⟩
    rcases h.own.2 with h2 | ⟨g, cap, cur, hv, hg, hh, r⟩
    · exact .inl h2
    · refine .inr ⟨g, cap, cur, hv, hg, (hb.block g ?_).trans hh, r⟩
      have : a = some ⟨g, 0, none⟩ := by injection hv
      have := h.lt _ this
      simp only at this
      omega, h.lt⟩
theorem Owns.btw {w w' : World} {lo hi lo' hi' e s n : Nat} {a : Option Addr} {c : Nat} {xs : List Value} (h : Owns w lo hi e s n a c xs) (hb : Between lo' hi' w w') (ho : hi ≤ lo' ∨ hi' ≤ lo) : Owns w' lo hi e s n a c xs :=
  ⟨own_btw h.own hb fun k hk => by
    cases a with
    | none => simp [Value.ownBlock] at hk
    | some p =>
      simp only [Value.ownBlock, Option.some.injEq] at hk
      have h1 := h.lt p rfl
      have h2 := h.ge p rfl
      subst hk
      omega, h.lt⟩
theorem Owns.row {w : World} {lo hi e s n : Nat} {a : Option Addr} {c : Nat} {xs : List Value} (h : Owns w lo hi e s n a c xs) : Row w a xs := Row.of_own h.own
theorem Owns.le {w : World} {lo hi e s n : Nat} {a : Option Addr} {c : Nat} {xs : List Value} (h : Owns w lo hi e s n a c xs) : n ≤ maxLen := Row.len_le h.own
theorem Owns.at_ {w : World} {lo hi e s n j : Nat} {a : Option Addr} {c : Nat} {xs : List Value} (h : Owns w lo hi e s n a c xs) (hj : j < n * s) :
    ∃ g, a = some ⟨g, 0, none⟩ ∧ lo ≤ g ∧ g < hi ∧ w.cell? ⟨g, j, none⟩ = xs[j]? ∧ w.frozen? ⟨g, j, none⟩ = false := by
  have hn : 0 < n := by rcases Nat.eq_zero_or_pos n with h0 | h0; (subst h0; simp at hj); exact h0
  obtain ⟨g, ha⟩ : ∃ g, a = some ⟨g, 0, none⟩ := by
    rcases h.own.2 with ⟨_, h0⟩ | ⟨g, cap, cur, hv, _⟩
    · omega
    · exact ⟨g, by injection hv⟩
  subst ha
  exact ⟨g, rfl, h.ge _ rfl, h.lt _ rfl, h.own.cellAt j hj, h.own.frozenAt j⟩
theorem Owns.set {w : World} {lo hi e s n j g : Nat} {c : Nat} {xs : List Value} (h : Owns w lo hi e s n (some ⟨g, 0, none⟩) c xs) (u : Value) : Owns (w.setCell ⟨g, j, none⟩ u) lo hi e s n (some ⟨g, 0, none⟩) c (xs.set j u) :=
  ⟨(h.own.stored j u).1, h.lt⟩
theorem Owns.drewN {w : World} {lo hi e s n : Nat} {a : Option Addr} {c : Nat} {xs : List Value} (h : Owns w lo hi e s n a c xs) (k : Nat) : Owns (w.drewN k) lo hi e s n a c xs := h.bel (B := hi) ⟨rfl, rfl, rfl, Nat.le_refl _, fun _ _ => rfl⟩ (Nat.le_refl _)
/-- The call wrote `cells` over a slice of the caller's own, and nothing else. -/
def RetMark (w : World) (lo hi E n : Nat) (a : Option Addr) (c : Nat) (cells : List Value) (v : Value) (e : Ending) (w' : World) : Prop :=
  e = .returned v ∧ ∃ z : After w lo hi, w' = z.w ∧ Owns z.w lo hi E 1 n a c cells
/-- A world in which the blocks below `B` are as they were. -/
structure LaterB (B : Nat) (W : World) where
  w : World
  bel : Below B W w
instance (B : Nat) (W : World) : Nonempty (LaterB B W) := ⟨⟨W, Below.refl _ _⟩⟩
@[irreducible] def LaterB.far {B : Nat} {W : World} (x : LaterB B W) (a : Addr) : Option Value := x.w.cell? a
theorem LaterB.cell {B : Nat} {W : World} (x : LaterB B W) (b o : Nat) (s : Option Nat) : x.w.cell? ⟨b, o, s⟩ = if b < B then W.cell? ⟨b, o, s⟩ else x.far ⟨b, o, s⟩ := by
  split
  · rename_i h; exact x.bel.cell h
  · unfold LaterB.far; rfl
attribute [go_sem] LaterB.cell
def LaterBC (B : Nat) (W w' : World) : Prop := ∃ x : LaterB B W, w' = x.w
attribute [go_sem] LaterBC
theorem LaterBC.mk {B : Nat} {W w' : World} (h : Below B W w') : LaterBC B W w' := ⟨⟨w', h⟩, rfl⟩
theorem below_common {B : Nat} {w0 W w' : World} (h1 : Below B w0 W) (h2 : Below B w0 w') (hs : W.heap.size ≤ w'.heap.size) : Below B W w' :=
  ⟨h2.os.trans h1.os.symm, h2.tape.trans h1.tape.symm, h2.output.trans h1.output.symm, hs, fun k hk => (h2.block k hk).trans (h1.block k hk).symm⟩
theorem btw_later {lo hi : Nat} {a W : World} (x : Later W) (h : Between lo hi a W) : Between lo hi a x.w := h.later x.bel
theorem btw_alloc {lo hi : Nat} {a W : World} (h : Between lo hi a W) (o : Obj) : Between lo hi a (W.alloc o) := h.later ((Below.refl _ _).alloc (Nat.le_refl _) o)
theorem btw_after {lo hi : Nat} {a W : World} (x : After W lo hi) (h : Between lo hi a W) : Between lo hi a x.w := h.trans x.btw
def AfterC (lo hi : Nat) (W w' : World) : Prop := ∃ x : After W lo hi, w' = x.w
attribute [go_sem] AfterC
theorem AfterC.mk {lo hi : Nat} {W w' : World} (h : Between lo hi W w') : AfterC lo hi W w' := ⟨⟨w', h⟩, rfl⟩
end Go.Proofs.YtokbolgaokbdcaaDoor
