import Derived.Test.YtemfhcmeeldngaaGreatDoorPackPa
import Derived.Deep.DeepCutAuto
import Derived.StillTailTactics
/- Several of my texts, one behind the other: Sou, Like, OwnsD, Float, Inv, Oper2. -/
/- The source of drawn numbers: what is asked of it, and the contracts of its functions: some number in the range, whatever it is. -/
set_option linter.unusedSimpArgs false
set_option linter.unusedVariables false
namespace Go.Proofs.YtemfhcmeeldngaaGreatDoor
open Go.RowKit
/-- Only the blocks g and k have turned. -/
structure But (g k : Nat) (w w' : World) : Prop where
  os : w'.os = w.os
  tape : w'.tape = w.tape
  output : w'.output = w.output
  size : w.heap.size ≤ w'.heap.size
  block : ∀ i, i < w.heap.size → i ≠ g → i ≠ k → w'.heap[i]? = w.heap[i]?
theorem But.refl (g k : Nat) (w : World) : But g k w w := ⟨rfl, rfl, rfl, Nat.le_refl _, fun _ _ _ _ => rfl⟩
theorem But.set {g k : Nat} {a w : World} (h : But g k a w) {p : Addr} (hp : p.block = g ∨ p.block = k) (u : Value) : But g k a (w.setCell p u) :=
  ⟨h.os, h.tape, h.output, by simpa [World.setCell] using h.size, fun i hi h1 h2 => (Below.heap_setCell w p u i (by omega)).trans (h.block i hi h1 h2)⟩
theorem But.drew {g k : Nat} {a w : World} (h : But g k a w) : But g k a w.drew := ⟨h.os, h.tape, h.output, h.size, h.block⟩
theorem But.drewN {g k : Nat} {a w : World} (h : But g k a w) (n : Nat) : But g k a (w.drewN n) := ⟨h.os, h.tape, h.output, h.size, h.block⟩
theorem But.trans {g k : Nat} {a b c : World} (h : But g k a b) (h2 : But g k b c) : But g k a c :=
  ⟨h2.os.trans h.os, h2.tape.trans h.tape, h2.output.trans h.output, Nat.le_trans h.size h2.size, fun i hi h3 h4 => (h2.block i (Nat.lt_of_lt_of_le hi h.size) h3 h4).trans (h.block i hi h3 h4)⟩
theorem But.later {g k : Nat} {a w w' : World} (h : But g k a w) (hb : Below w.heap.size w w') : But g k a w' :=
  ⟨hb.os.trans h.os, hb.tape.trans h.tape, hb.output.trans h.output, Nat.le_trans h.size hb.size, fun i hi h1 h2 => (hb.block i (Nat.lt_of_lt_of_le hi h.size)).trans (h.block i hi h1 h2)⟩
theorem But.after {g k : Nat} {a w : World} (x : After w g (g + 1)) (h : But g k a w) : But g k a x.w :=
  h.trans ⟨x.btw.os, x.btw.tape, x.btw.output, x.btw.size, fun i hi h1 _ => x.btw.block i hi (by omega)⟩
/-- A block made since `w` does not count. -/
theorem But.btw {g k : Nat} {a b c : World} (h : But g k b c) (h0 : Between g (g + 1) a b) (hk : a.heap.size ≤ k) : Between g (g + 1) a c :=
  ⟨h.os.trans h0.os, h.tape.trans h0.tape, h.output.trans h0.output, Nat.le_trans h0.size h.size, fun i hi hor => (h.block i (Nat.lt_of_lt_of_le hi h0.size) (by omega) (by omega)).trans (h0.block i hi hor)⟩
structure Aft (W : World) (g k : Nat) where
  w : World
  but : But g k W w
instance (W : World) (g k : Nat) : Nonempty (Aft W g k) := ⟨⟨W, But.refl _ _ _⟩⟩
@[irreducible] def Aft.far {W : World} {g k : Nat} (x : Aft W g k) (a : Addr) : Option Value := x.w.cell? a
@[irreducible] def Aft.farFrozen {W : World} {g k : Nat} (x : Aft W g k) (a : Addr) : Bool := x.w.frozen? a
theorem Aft.cell {W : World} {g k : Nat} (x : Aft W g k) (b o : Nat) (s : Option Nat) :
    x.w.cell? ⟨b, o, s⟩ = if b < W.heap.size then (if b = g then x.far ⟨b, o, s⟩ else if b = k then x.far ⟨b, o, s⟩ else W.cell? ⟨b, o, s⟩) else x.far ⟨b, o, s⟩ := by
  by_cases h1 : b < W.heap.size
  · rw [if_pos h1]
    by_cases h2 : b = g
    · rw [if_pos h2]; unfold Aft.far; rfl
    · rw [if_neg h2]
      by_cases h3 : b = k
      · rw [if_pos h3]; unfold Aft.far; rfl
      · rw [if_neg h3]; exact World.cell?_of_block (w := W) (x.but.block b h1 h2 h3)
  · rw [if_neg h1]; unfold Aft.far; rfl
theorem Aft.frozen {W : World} {g k : Nat} (x : Aft W g k) (b o : Nat) (s : Option Nat) :
    x.w.frozen? ⟨b, o, s⟩ = if b < W.heap.size then (if b = g then x.farFrozen ⟨b, o, s⟩ else if b = k then x.farFrozen ⟨b, o, s⟩ else W.frozen? ⟨b, o, s⟩) else x.farFrozen ⟨b, o, s⟩ := by
  by_cases h1 : b < W.heap.size
  · rw [if_pos h1]
    by_cases h2 : b = g
    · rw [if_pos h2]; unfold Aft.farFrozen; rfl
    · rw [if_neg h2]
      by_cases h3 : b = k
      · rw [if_pos h3]; unfold Aft.farFrozen; rfl
      · rw [if_neg h3]; exact World.frozen?_of_block (w := W) (x.but.block b h1 h2 h3)
  · rw [if_neg h1]; unfold Aft.farFrozen; rfl
attribute [go_sem] Aft.cell Aft.frozen
def AftC (g k : Nat) (W w' : World) : Prop := ∃ x : Aft W g k, w' = x.w
attribute [go_sem] AftC
theorem AftC.mk {g k : Nat} {W w' : World} (h : But g k W w') : AftC g k W w' := ⟨⟨w', h⟩, rfl⟩
theorem Aft.btw {a W : World} {g k : Nat} (x : Aft W g k) (h0 : Between g (g + 1) a W) (hk : a.heap.size ≤ k) : Between g (g + 1) a x.w := x.but.btw h0 hk
theorem btw_own {g : Nat} {a w : World} (h : Between g (g + 1) a w) {p : Addr} (hp : a.heap.size ≤ p.block) (u : Value) : Between g (g + 1) a (w.setCell p u) :=
  ⟨h.os, h.tape, h.output, by simpa [World.setCell] using h.size, fun k hk hor => (Below.heap_setCell w p u k (by omega)).trans (h.block k hk hor)⟩

/-- Only the block g and the blocks from lo on and below hi have turned. -/
structure ButR (g lo hi : Nat) (w w' : World) : Prop where
  os : w'.os = w.os
  tape : w'.tape = w.tape
  output : w'.output = w.output
  size : w.heap.size ≤ w'.heap.size
  block : ∀ i, i < w.heap.size → i ≠ g → (i < lo ∨ hi ≤ i) → w'.heap[i]? = w.heap[i]?
theorem ButR.refl (g lo hi : Nat) (w : World) : ButR g lo hi w w := ⟨rfl, rfl, rfl, Nat.le_refl _, fun _ _ _ _ => rfl⟩
theorem ButR.set {g lo hi : Nat} {a w : World} (h : ButR g lo hi a w) {p : Addr} (hp : p.block = g ∨ (lo ≤ p.block ∧ p.block < hi)) (u : Value) : ButR g lo hi a (w.setCell p u) :=
  ⟨h.os, h.tape, h.output, by simpa [World.setCell] using h.size, fun i hi' h1 h2 => (Below.heap_setCell w p u i (by omega)).trans (h.block i hi' h1 h2)⟩
theorem ButR.drew {g lo hi : Nat} {a w : World} (h : ButR g lo hi a w) : ButR g lo hi a w.drew := ⟨h.os, h.tape, h.output, h.size, h.block⟩
theorem ButR.drewN {g lo hi : Nat} {a w : World} (h : ButR g lo hi a w) (n : Nat) : ButR g lo hi a (w.drewN n) := ⟨h.os, h.tape, h.output, h.size, h.block⟩
theorem ButR.after {g lo hi : Nat} {a w : World} (x : After w g (g + 1)) (h : ButR g lo hi a w) : ButR g lo hi a x.w :=
  ⟨x.btw.os.trans h.os, x.btw.tape.trans h.tape, x.btw.output.trans h.output, Nat.le_trans h.size x.btw.size, fun i hi' h1 h2 => (x.btw.block i (Nat.lt_of_lt_of_le hi' h.size) (by omega)).trans (h.block i hi' h1 h2)⟩
theorem ButR.later {g lo hi : Nat} {a w w' : World} (h : ButR g lo hi a w) (hb : Below w.heap.size w w') : ButR g lo hi a w' :=
  ⟨hb.os.trans h.os, hb.tape.trans h.tape, hb.output.trans h.output, Nat.le_trans h.size hb.size, fun i hi h1 h2 => (hb.block i (Nat.lt_of_lt_of_le hi h.size)).trans (h.block i hi h1 h2)⟩
structure AftR (W : World) (g lo hi : Nat) where
  w : World
  but : ButR g lo hi W w
instance (W : World) (g lo hi : Nat) : Nonempty (AftR W g lo hi) := ⟨⟨W, ButR.refl _ _ _ _⟩⟩
@[irreducible] def AftR.far {W : World} {g lo hi : Nat} (x : AftR W g lo hi) (a : Addr) : Option Value := x.w.cell? a
@[irreducible] def AftR.farFrozen {W : World} {g lo hi : Nat} (x : AftR W g lo hi) (a : Addr) : Bool := x.w.frozen? a
theorem AftR.cell {W : World} {g lo hi : Nat} (x : AftR W g lo hi) (b o : Nat) (s : Option Nat) :
    x.w.cell? ⟨b, o, s⟩ = if b < W.heap.size then (if b = g then x.far ⟨b, o, s⟩ else if b < lo then W.cell? ⟨b, o, s⟩ else if hi ≤ b then W.cell? ⟨b, o, s⟩ else x.far ⟨b, o, s⟩) else x.far ⟨b, o, s⟩ := by
  by_cases h1 : b < W.heap.size
  · rw [if_pos h1]
    by_cases h2 : b = g
    · rw [if_pos h2]; unfold AftR.far; rfl
    · rw [if_neg h2]
      by_cases h3 : b < lo
      · rw [if_pos h3]; exact World.cell?_of_block (w := W) (x.but.block b h1 h2 (.inl h3))
      · rw [if_neg h3]
        by_cases h4 : hi ≤ b
        · rw [if_pos h4]; exact World.cell?_of_block (w := W) (x.but.block b h1 h2 (.inr h4))
        · rw [if_neg h4]; unfold AftR.far; rfl
  · rw [if_neg h1]; unfold AftR.far; rfl
theorem AftR.frozen {W : World} {g lo hi : Nat} (x : AftR W g lo hi) (b o : Nat) (s : Option Nat) :
    x.w.frozen? ⟨b, o, s⟩ = if b < W.heap.size then (if b = g then x.farFrozen ⟨b, o, s⟩ else if b < lo then W.frozen? ⟨b, o, s⟩ else if hi ≤ b then W.frozen? ⟨b, o, s⟩ else x.farFrozen ⟨b, o, s⟩) else x.farFrozen ⟨b, o, s⟩ := by
  by_cases h1 : b < W.heap.size
  · rw [if_pos h1]
    by_cases h2 : b = g
    · rw [if_pos h2]; unfold AftR.farFrozen; rfl
    · rw [if_neg h2]
      by_cases h3 : b < lo
      · rw [if_pos h3]; exact World.frozen?_of_block (w := W) (x.but.block b h1 h2 (.inl h3))
      · rw [if_neg h3]
        by_cases h4 : hi ≤ b
        · rw [if_pos h4]; exact World.frozen?_of_block (w := W) (x.but.block b h1 h2 (.inr h4))
        · rw [if_neg h4]; unfold AftR.farFrozen; rfl
  · rw [if_neg h1]; unfold AftR.farFrozen; rfl
attribute [go_sem] AftR.cell AftR.frozen
def AftRC (g lo hi : Nat) (W w' : World) : Prop := ∃ x : AftR W g lo hi, w' = x.w
attribute [go_sem] AftRC
theorem AftRC.mk {g lo hi : Nat} {W w' : World} (h : ButR g lo hi W w') : AftRC g lo hi W w' := ⟨⟨w', h⟩, rfl⟩
def byteCells (l : List Int) : List Value := l.map (Value.int .u8)
theorem byteCells_get {l : List Int} {k : Nat} (h : k < l.length) : (byteCells l)[k]? = some (.int .u8 l[k]) := by simp [byteCells, h]
/-- Block `g` is a source: a code, a place in it, a seed. -/
def SrcAt (w : World) (g : Nat) (a : Option Addr) (n c : Nat) (l : List Int) (k : Nat) (s : Int) : Prop :=
  Row w a (byteCells l) ∧ l.length = n ∧ n ≤ 4096 ∧ (∀ x ∈ l, 0 ≤ x ∧ x ≤ 255) ∧ (∀ p : Addr, a = some p → 0 < n → p.block < g) ∧ k ≤ n ∧ 0 ≤ s ∧ s < 2147483647 ∧
    w.cell? ⟨g, 0, none⟩ = some (.slice a n c) ∧ w.cell? ⟨g, 1, none⟩ = some (.int .i64 k) ∧ w.cell? ⟨g, 2, none⟩ = some (.int .i64 s) ∧ w.frozen? ⟨g, 1, none⟩ = false ∧ w.frozen? ⟨g, 2, none⟩ = false
def SrcOk (w : World) (g : Nat) : Prop := ∃ a n c l k s, SrcAt w g a n c l k s
theorem SrcOk.lt {w : World} {g : Nat} (h : SrcOk w g) : g < w.heap.size := by
  obtain ⟨a, n, c, l, k, s, _, _, _, _, _, _, _, _, h0, _⟩ := h
  exact World.block_lt_of_cell? w _ h0
theorem SrcOk.keep {w w' : World} {g : Nat} (h : SrcOk w g) (hb : ∀ i, i ≤ g → w'.heap[i]? = w.heap[i]?) : SrcOk w' g := by
  obtain ⟨a, n, c, l, k, s, hr, hl, hn, hx, ha, hk, hs0, hs1, h0, h1, h2, f1, f2⟩ := h
  refine ⟨a, n, c, l, k, s, ?_, hl, hn, hx, ha, hk, hs0, hs1, ?_, ?_, ?_, ?_, ?_⟩
  · intro j v hj
    obtain ⟨b, o, rfl, hc⟩ := hr j v hj
    exact ⟨b, o, rfl, (World.cell?_of_block (w := w) (hb b (Nat.le_of_lt (ha _ rfl (by have := (List.getElem?_eq_some_iff.1 hj).1; simp only [byteCells, List.length_map] at this; omega))))).trans hc⟩
  · exact (World.cell?_of_block (w := w) (hb g (Nat.le_refl _))).trans h0
  · exact (World.cell?_of_block (w := w) (hb g (Nat.le_refl _))).trans h1
  · exact (World.cell?_of_block (w := w) (hb g (Nat.le_refl _))).trans h2
  · exact (World.frozen?_of_block (w := w) (hb g (Nat.le_refl _))).trans f1
  · exact (World.frozen?_of_block (w := w) (hb g (Nat.le_refl _))).trans f2
theorem SrcOk.below {w w' : World} {g B : Nat} (h : SrcOk w g) (hb : Below B w w') (hg : g < B) : SrcOk w' g := h.keep fun i hi => hb.block i (by omega)
theorem SrcOk.later {w : World} {g : Nat} (x : Later w) (h : SrcOk w g) : SrcOk x.w g := h.below x.bel h.lt
theorem SrcOk.alloc {w : World} {g : Nat} (h : SrcOk w g) (o : Obj) : SrcOk (w.alloc o) g := h.below ((Below.refl _ _).alloc (Nat.le_refl _) o) h.lt
theorem SrcOk.drew {w : World} {g : Nat} (h : SrcOk w g) : SrcOk w.drew g := h.keep fun _ _ => rfl
theorem SrcOk.drewN {w : World} {g : Nat} (h : SrcOk w g) (n : Nat) : SrcOk (w.drewN n) g := h.keep fun _ _ => rfl
theorem SrcOk.set {w : World} {g : Nat} (h : SrcOk w g) {p : Addr} (hp : g < p.block) (u : Value) : SrcOk (w.setCell p u) g := h.keep fun i hi => Below.heap_setCell w p u i (by omega)
theorem SrcOk.after {w : World} {g lo hi : Nat} (x : After w lo hi) (h : SrcOk w g) (hg : g < lo) : SrcOk x.w g := h.keep fun i hi => x.btw.block i (by have := h.lt; omega) (by omega)
/-- Some number of the range. -/
def RetNum (w : World) (g : Nat) (m : Int) (e : Ending) (w' : World) : Prop :=
  ∃ r : Int, (0 ≤ r ∧ (r < m ∨ r = 0)) ∧ e = .returned (.int .i64 r) ∧ ∃ z : After w g (g + 1), w' = z.w ∧ SrcOk z.w g
theorem RetNum.mk {w w' : World} {g : Nat} {m : Int} {e : Ending} (r : Int) (h0 : 0 ≤ r) (h1 : r < m ∨ r = 0) (he : e = .returned (.int .i64 r)) (hb : Between g (g + 1) w w') (hs : SrcOk w' g) : RetNum w g m e w' := ⟨r, ⟨h0, h1⟩, he, ⟨w', hb⟩, rfl, hs⟩
/-- A new source. -/
def RetSrc (w : World) (e : Ending) (w' : World) : Prop :=
  ∃ g : Nat, w.heap.size ≤ g ∧ e = .returned (.pointer (some ⟨g, 0, none⟩)) ∧ ∃ y : Later w, w' = y.w ∧ SrcOk y.w g
set_option maxHeartbeats 1000000 in
theorem from_any (a : Option Addr) (n c : Nat) (l : List Int) (w : World) (hr : Row w a (byteCells l)) (hl : l.length = n) (hn : n ≤ 4096) (hx : ∀ x ∈ l, 0 ≤ x ∧ x ≤ 255) :
    Calls Tryz.prog 19 #[.slice a n c] w (RetSrc w) := by
  subst hl
  have hr := Lib.hid hr
  have hx := Lib.hid hx
  have ha := Lib.hid (show ∀ p : Addr, a = some p → 0 < l.length → p.block < w.heap.size from fun p hp h0 => by
    obtain ⟨b, o, he, hc⟩ := hr.out 0 _ (byteCells_get h0)
    rw [hp] at he
    injection he with he
    subst he
    exact World.block_lt_of_cell? w _ hc)
  go_enter Tryz.func19, Tryz.ntmps19
  go_wp2_with fail
  go_loopw [4] (fun i wr => ∃ (k : Nat) (s : Int), k ≤ l.length ∧ k ≤ 64 ∧ 0 ≤ s ∧ s < 2147483647 ∧ i = .int .i64 k ∧ wr.cell? ⟨w.heap.size, 0, none⟩ = some (.slice a l.length c) ∧ wr.cell? ⟨w.heap.size, 1, none⟩ = some (.int .i64 0) ∧ wr.cell? ⟨w.heap.size, 2, none⟩ = some (.int .i64 s) ∧
    wr.frozen? ⟨w.heap.size, 1, none⟩ = false ∧ wr.frozen? ⟨w.heap.size, 2, none⟩ = false ∧ Below w.heap.size w wr) (fun i _ => l.length - (intOf i).toNat)
  case atStart =>
    refine ⟨0, 51031, Nat.zero_le _, by omega, by omega, by omega, rfl, ?_, ?_, ?_, ?_, ?_, ?_⟩
    · simp [go_sem, ↓IntWalk.iteOmega]
    · simp [go_sem, ↓IntWalk.iteOmega]
    · simp [go_sem, ↓IntWalk.iteOmega]
    · simp [go_sem, ↓IntWalk.iteOmega]
    · simp [go_sem, ↓IntWalk.iteOmega]
    · (repeat (first | (with_reducible exact Below.refl _ _) | (with_reducible assumption) | (with_reducible refine Later.out _ ?_) | (with_reducible refine bel_alloc ?_ _) | (with_reducible refine bel_drew ?_) | (with_reducible refine bel_drewN ?_ _) | (with_reducible refine bel_set ?_ ?_ _) | (with_reducible refine After.out _ ?_ ?_) | (dsimp only; omega) | omega | (simp only [World.size_alloc, World.size_setCell, World.size_drew]; omega)))
  case round =>
    obtain ⟨k, s, hk, hk6, hs0, hs1, rfl, c0, c1, c2, f1, f2, hb⟩ := hrel
    have hb' := Lib.hid hb
    have hsz := hb.size
    have hgw := World.block_lt_of_cell? wr _ c0
    simp only at hgw
    by_cases hlt : k < l.length
    · by_cases h64 : k < 64
      · obtain ⟨b, o, rfl, hc⟩ := (hr.out.bel hb) k _ (byteCells_get hlt)
        have hx1 := hx.out l[k] (List.getElem_mem hlt)
        have hbb := ha.out _ rfl (by omega)
        simp only at hbb
        obtain ⟨B, hB⟩ : ∃ B, l[k] = B := ⟨_, rfl⟩
        rw [hB] at hc hx1
        have i1 : (k : Int) < (l.length : Int) := by omega
        have i2 : (k : Int) < 64 := by omega
        clear hB hb
        go_wp2_with fail
        go_region
        go_wp2_with fail
        go_roundw
        case rel =>
          refine ⟨k + 1, (s * 73 + B) % 2147483647, by omega, by omega, by omega, by omega, by go_num, ?_, ?_, ?_, ?_, ?_, ?_⟩
          all_goals first | (simp [go_sem, ↓IntWalk.iteOmega, c0, c1, c2, f1, f2, hgw]; done) | (have hb1 := hb'.out; (repeat (first | (with_reducible exact Below.refl _ _) | (with_reducible assumption) | (with_reducible refine Later.out _ ?_) | (with_reducible refine bel_alloc ?_ _) | (with_reducible refine bel_drew ?_) | (with_reducible refine bel_drewN ?_ _) | (with_reducible refine bel_set ?_ ?_ _) | (with_reducible refine After.out _ ?_ ?_) | (dsimp only; omega) | omega | (simp only [World.size_alloc, World.size_setCell, World.size_drew]; omega))))
        case measure => first | (simp [intOf]; done) | (simp [intOf]; omega) | omega
      · have i2 : ¬ (k : Int) < 64 := by omega
        have i1 : (k : Int) < (l.length : Int) := by omega
        clear hb
        go_wp2_with fail
        go_ret
        refine ⟨w.heap.size, Nat.le_refl _, rfl, ⟨_, hb'.out⟩, rfl, a, l.length, c, l, 0, s, hr.out.bel hb'.out, rfl, hn, hx.out, ha.out, Nat.zero_le _, hs0, hs1, c0, c1, c2, f1, f2⟩
    · have i1 : ¬ (k : Int) < (l.length : Int) := by omega
      clear hb
      go_wp2_with fail
      go_ret
      refine ⟨w.heap.size, Nat.le_refl _, rfl, ⟨_, hb'.out⟩, rfl, a, l.length, c, l, 0, s, hr.out.bel hb'.out, rfl, hn, hx.out, ha.out, Nat.zero_le _, hs0, hs1, c0, c1, c2, f1, f2⟩
set_option maxHeartbeats 2000000 in
theorem next_any (g : Nat) (m : Int) (w : World) (h : SrcOk w g) : Calls Tryz.prog 40 #[.pointer (some ⟨g, 0, none⟩), .int .i64 m] w (RetNum w g m) := by
  by_cases hm : m ≤ 1
  · have h' := Lib.hid h
    clear h
    go_enter Tryz.func40, Tryz.ntmps40
    go_wp2_with fail
    go_ret
    exact RetNum.mk 0 (by omega) (.inr rfl) rfl (Between.refl _ _ _) h'.out
  · obtain ⟨a, n, c, l, k, s, hr, hl, hn, hx, ha, hk, hs0, hs1, h0, h1, h2, f1, f2⟩ := h
    subst hl
    have hr := Lib.hid hr
    have hx := Lib.hid hx
    have ha := Lib.hid ha
    have hm' : 1 < m := by omega
    obtain ⟨S, hS⟩ : ∃ S, (s * 48271 + 29) % 2147483647 = S := ⟨_, rfl⟩
    have hS0 : 0 ≤ S := by omega
    have hS1 : S < 2147483647 := by omega
    have hgw := World.block_lt_of_cell? w _ h0
    simp only at hgw
    by_cases hlt : k < l.length
    · obtain ⟨b, o, rfl, hc⟩ := hr.out k _ (byteCells_get hlt)
      have hx1 := hx.out l[k] (List.getElem_mem hlt)
      have hbb := ha.out _ rfl (by omega)
      simp only at hbb
      obtain ⟨B, hB⟩ : ∃ B, l[k] = B := ⟨_, rfl⟩
      rw [hB] at hc hx1
      have i1 : (k : Int) < (l.length : Int) := by omega
      clear hB
      by_cases h256 : m ≤ 256
      · by_cases hev : ((k : Int) + 1) % 2 = 0
        · have e1 : (k : Int) + 1 - 1 = k := by omega
          go_enter Tryz.func40, Tryz.ntmps40
          go_wp2_with fail
          refine wp_region_later (by kernel_rfl) (by kernel_rfl) ?_
          repeat (go_big_quiet_step (fail))
          refine wpQuiet_nil ?_
          rintro _ ⟨xq, rfl⟩
          have hq := xq.bel.size
          (try simp only [World.size_setCell, World.size_drew] at hq)
          go_wp2_with fail
          refine wp_region_later (by kernel_rfl) (by kernel_rfl) ?_
          repeat (go_big_quiet_step (fail))
          refine wpQuiet_nil ?_
          rintro _ ⟨xq, rfl⟩
          have hq := xq.bel.size
          (try simp only [World.size_setCell, World.size_drew] at hq)
          go_wp2_with fail
          refine wp_region_later (by kernel_rfl) (by kernel_rfl) ?_
          repeat (go_big_quiet_step (fail))
          refine wpQuiet_nil ?_
          rintro _ ⟨xq, rfl⟩
          have hq := xq.bel.size
          (try simp only [World.size_setCell, World.size_drew] at hq)
          go_wp2_with fail
          go_ret
          refine RetNum.mk _ (Int.emod_nonneg _ (by omega)) (.inl (Int.emod_lt_of_pos _ (by omega))) rfl ?_ ?_
          · (repeat (first | (with_reducible exact Between.refl _ _ _) | (with_reducible refine Between.drew ?_) | (with_reducible refine Between.drewN ?_ _) | (with_reducible refine Between.set ?_ ?_ ?_ _) | (with_reducible refine btw_later _ ?_) | (with_reducible refine btw_alloc ?_ _) | (with_reducible refine btw_after _ ?_) | (with_reducible assumption) | (dsimp only; omega) | omega))
          · refine ⟨_, _, c, l, k + 1, S, hr.out.btw (lo := g) (hi := g + 1) ?_ fun p hp => .inl (ha.out p hp (by omega)), rfl, hn, hx.out, ha.out, by omega, hS0, hS1, ?_, ?_, ?_, ?_, ?_⟩
            · (repeat (first | (with_reducible exact Between.refl _ _ _) | (with_reducible refine Between.drew ?_) | (with_reducible refine Between.drewN ?_ _) | (with_reducible refine Between.set ?_ ?_ ?_ _) | (with_reducible refine btw_later _ ?_) | (with_reducible refine btw_alloc ?_ _) | (with_reducible refine btw_after _ ?_) | (with_reducible assumption) | (dsimp only; omega) | omega))
            all_goals first | (simp [go_sem, ↓IntWalk.iteOmega, h0, h1, h2, f1, f2, hgw]; done) | (simp [go_sem, ↓IntWalk.iteOmega, h0, h1, h2, f1, f2, hgw]; intro hh; omega)
        · skip
          go_enter Tryz.func40, Tryz.ntmps40
          go_wp2_with fail
          refine wp_region_later (by kernel_rfl) (by kernel_rfl) ?_
          repeat (go_big_quiet_step (fail))
          refine wpQuiet_nil ?_
          rintro _ ⟨xq, rfl⟩
          have hq := xq.bel.size
          (try simp only [World.size_setCell, World.size_drew] at hq)
          go_wp2_with fail
          refine wp_region_later (by kernel_rfl) (by kernel_rfl) ?_
          repeat (go_big_quiet_step (fail))
          refine wpQuiet_nil ?_
          rintro _ ⟨xq, rfl⟩
          have hq := xq.bel.size
          (try simp only [World.size_setCell, World.size_drew] at hq)
          go_wp2_with fail
          go_ret
          refine RetNum.mk _ (Int.emod_nonneg _ (by omega)) (.inl (Int.emod_lt_of_pos _ (by omega))) rfl ?_ ?_
          · (repeat (first | (with_reducible exact Between.refl _ _ _) | (with_reducible refine Between.drew ?_) | (with_reducible refine Between.drewN ?_ _) | (with_reducible refine Between.set ?_ ?_ ?_ _) | (with_reducible refine btw_later _ ?_) | (with_reducible refine btw_alloc ?_ _) | (with_reducible refine btw_after _ ?_) | (with_reducible assumption) | (dsimp only; omega) | omega))
          · refine ⟨_, _, c, l, k + 1, S, hr.out.btw (lo := g) (hi := g + 1) ?_ fun p hp => .inl (ha.out p hp (by omega)), rfl, hn, hx.out, ha.out, by omega, hS0, hS1, ?_, ?_, ?_, ?_, ?_⟩
            · (repeat (first | (with_reducible exact Between.refl _ _ _) | (with_reducible refine Between.drew ?_) | (with_reducible refine Between.drewN ?_ _) | (with_reducible refine Between.set ?_ ?_ ?_ _) | (with_reducible refine btw_later _ ?_) | (with_reducible refine btw_alloc ?_ _) | (with_reducible refine btw_after _ ?_) | (with_reducible assumption) | (dsimp only; omega) | omega))
            all_goals first | (simp [go_sem, ↓IntWalk.iteOmega, h0, h1, h2, f1, f2, hgw]; done) | (simp [go_sem, ↓IntWalk.iteOmega, h0, h1, h2, f1, f2, hgw]; intro hh; omega)
      · skip
        go_enter Tryz.func40, Tryz.ntmps40
        go_wp2_with fail
        refine wp_region_later (by kernel_rfl) (by kernel_rfl) ?_
        repeat (go_big_quiet_step (fail))
        refine wpQuiet_nil ?_
        rintro _ ⟨xq, rfl⟩
        have hq := xq.bel.size
        (try simp only [World.size_setCell, World.size_drew] at hq)
        go_wp2_with fail
        refine wp_region_later (by kernel_rfl) (by kernel_rfl) ?_
        repeat (go_big_quiet_step (fail))
        refine wpQuiet_nil ?_
        rintro _ ⟨xq, rfl⟩
        have hq := xq.bel.size
        (try simp only [World.size_setCell, World.size_drew] at hq)
        go_wp2_with fail
        go_ret
        refine RetNum.mk _ (Int.emod_nonneg _ (by omega)) (.inl (Int.emod_lt_of_pos _ (by omega))) rfl ?_ ?_
        · (repeat (first | (with_reducible exact Between.refl _ _ _) | (with_reducible refine Between.drew ?_) | (with_reducible refine Between.drewN ?_ _) | (with_reducible refine Between.set ?_ ?_ ?_ _) | (with_reducible refine btw_later _ ?_) | (with_reducible refine btw_alloc ?_ _) | (with_reducible refine btw_after _ ?_) | (with_reducible assumption) | (dsimp only; omega) | omega))
        · refine ⟨_, _, c, l, k + 1, S, hr.out.btw (lo := g) (hi := g + 1) ?_ fun p hp => .inl (ha.out p hp (by omega)), rfl, hn, hx.out, ha.out, by omega, hS0, hS1, ?_, ?_, ?_, ?_, ?_⟩
          · (repeat (first | (with_reducible exact Between.refl _ _ _) | (with_reducible refine Between.drew ?_) | (with_reducible refine Between.drewN ?_ _) | (with_reducible refine Between.set ?_ ?_ ?_ _) | (with_reducible refine btw_later _ ?_) | (with_reducible refine btw_alloc ?_ _) | (with_reducible refine btw_after _ ?_) | (with_reducible assumption) | (dsimp only; omega) | omega))
          all_goals first | (simp [go_sem, ↓IntWalk.iteOmega, h0, h1, h2, f1, f2, hgw]; done) | (simp [go_sem, ↓IntWalk.iteOmega, h0, h1, h2, f1, f2, hgw]; intro hh; omega)
    · have i1 : ¬ (k : Int) < (l.length : Int) := by omega
      go_enter Tryz.func40, Tryz.ntmps40
      go_wp2_with fail
      refine wp_region_later (by kernel_rfl) (by kernel_rfl) ?_
      repeat (go_big_quiet_step (fail))
      refine wpQuiet_nil ?_
      rintro _ ⟨xq, rfl⟩
      have hq := xq.bel.size
      (try simp only [World.size_setCell, World.size_drew] at hq)
      go_wp2_with fail
      go_ret
      refine RetNum.mk _ (Int.emod_nonneg _ (by omega)) (.inl (Int.emod_lt_of_pos _ (by omega))) rfl ?_ ?_
      · (repeat (first | (with_reducible exact Between.refl _ _ _) | (with_reducible refine Between.drew ?_) | (with_reducible refine Between.drewN ?_ _) | (with_reducible refine Between.set ?_ ?_ ?_ _) | (with_reducible refine btw_later _ ?_) | (with_reducible refine btw_alloc ?_ _) | (with_reducible refine btw_after _ ?_) | (with_reducible assumption) | (dsimp only; omega) | omega))
      · refine ⟨a, l.length, c, l, k, S, ?_, rfl, hn, hx.out, ha.out, hk, hS0, hS1, ?_, ?_, ?_, ?_, ?_⟩
        · rcases Nat.eq_zero_or_pos l.length with hl0 | hl0
          · have : l = [] := List.eq_nil_of_length_eq_zero hl0
            subst this
            exact Row.nil _ _
          · refine hr.out.btw (lo := g) (hi := g + 1) ?_ fun p hp => .inl (ha.out p hp hl0)
            (repeat (first | (with_reducible exact Between.refl _ _ _) | (with_reducible refine Between.drew ?_) | (with_reducible refine Between.drewN ?_ _) | (with_reducible refine Between.set ?_ ?_ ?_ _) | (with_reducible refine btw_later _ ?_) | (with_reducible refine btw_alloc ?_ _) | (with_reducible refine btw_after _ ?_) | (with_reducible assumption) | (dsimp only; omega) | omega))
        all_goals first | (simp [go_sem, ↓IntWalk.iteOmega, h0, h1, h2, f1, f2, hgw]; done) | (simp [go_sem, ↓IntWalk.iteOmega, h0, h1, h2, f1, f2, hgw]; intro hh; omega)
/-- One of some numbers. -/
def RetPick (w : World) (g : Nat) (l : List Int) (e : Ending) (w' : World) : Prop :=
  ∃ v : Int, v ∈ l ∧ e = .returned (.int .i64 v) ∧ ∃ z : After w g (g + 1), w' = z.w ∧ SrcOk z.w g
set_option maxHeartbeats 1000000 in
theorem pick_any (g : Nat) (l : List Int) (a : Option Addr) (n c : Nat) (w : World) (h : SrcOk w g) (hl : l.length = n) (h0 : 0 < n) (hn : n ≤ 1000) (hr : Row w a (intCells l)) (ha : ∀ p : Addr, a = some p → p.block ≠ g) :
    Calls Tryz.prog 42 #[.pointer (some ⟨g, 0, none⟩), .slice a n c] w (RetPick w g l) := by
  subst hl
  have hg := h.lt
  have H0 := Lib.hid h
  replace hr := Lib.hid hr
  replace ha := Lib.hid ha
  clear h
  go_enter Tryz.func42, Tryz.ntmps42
  go_wp2_with fail
  with_reducible refine (next_any g _ _ (by (repeat (first | (with_reducible exact H0.out) | (with_reducible refine SrcOk.alloc ?_ _) | (with_reducible refine SrcOk.set ?_ ?_ _) | (with_reducible refine SrcOk.drewN ?_ _) | (with_reducible refine SrcOk.drew ?_) | (with_reducible refine SrcOk.later _ ?_) | (with_reducible refine SrcOk.after _ ?_ ?_) | (dsimp only; omega) | omega | ((try simp only [World.size_alloc, World.size_setCell, World.size_drew]); omega))))).mono ?_
  rintro e w' ⟨r, hdraw, rfl, z, rfl, hsrc⟩
  have hsz := z.btw.size
  (try simp only [World.size_alloc, World.size_setCell, World.size_drew] at hsz)
  have H1 := Lib.hid hsrc
  clear hsrc
  obtain ⟨r0, r1⟩ := hdraw
  obtain ⟨k, rfl⟩ : ∃ k : Nat, r = k := ⟨r.toNat, by omega⟩
  have hk : k < l.length := by omega
  obtain ⟨b, o, rfl, hc⟩ := (hr.out.btw z.btw fun p hp => by have := ha.out p hp; omega) k _ (intCells_get hk)
  have hm := List.getElem_mem hk
  obtain ⟨V, hV⟩ : ∃ V, l[k] = V := ⟨_, rfl⟩
  rw [hV] at hc hm
  have i1 : (k : Int) < (l.length : Int) := by omega
  replace hm := Lib.hid hm
  clear hV
  go_wp2_with fail
  go_ret
  exact ⟨V, hm.out, rfl, z, rfl, H1.out⟩
end Go.Proofs.YtemfhcmeeldngaaGreatDoor

/- Comparisons and sums in the laws that draw: lists of numbers. -/
set_option linter.unusedSimpArgs false
set_option linter.unusedVariables false
namespace Go.Proofs.YtemfhcmeeldngaaGreatDoor
open Go.RowKit
set_option maxHeartbeats 400000 in
theorem likeInts_any (l l' : List Int) (a a' : Option Addr) (n c n' c' : Nat) (w : World) (hn : l.length = n) (hn' : l'.length = n') (hm : n ≤ 1048576) (hm' : n' ≤ 1048576) (hr : Row w a (intCells l)) (hr' : Row w a' (intCells l')) :
    Calls Tryz.prog 16 #[.slice a n c, .slice a' n' c'] w (Ret w (.bool (l == l'))) := by
  subst hn hn'
  by_cases hl : l.length = l'.length
  · have hr := Lib.hid hr
    have hr' := Lib.hid hr'
    have e1 : ((l.length : Int) != (l'.length : Int)) = false := by simp [hl]
    have HL := Lib.hid hl
    clear hl
    go_enter Tryz.func16, Tryz.ntmps16
    go_wp2
    go_loopw [5] (fun i wr => ∃ k : Nat, k ≤ l.length ∧ i = .int .i64 k ∧ (∀ j (h1 : j < l.length) (h2 : j < l'.length), j < k → l[j] = l'[j]) ∧ Below w.heap.size w wr) (fun i _ => l.length - (intOf i).toNat)
    case atStart => exact ⟨0, Nat.zero_le _, rfl, fun j _ _ h => absurd h (by omega), Below.refl _ _⟩
    case round =>
      obtain ⟨k, hk, rfl, hsame, hb⟩ := hrel
      by_cases hlt : k < l.length
      · have hlt' : k < l'.length := by have := HL.out; omega
        obtain ⟨b, o, rfl, hc⟩ := (hr.out.bel hb) k _ (intCells_get hlt)
        obtain ⟨b', o', rfl, hc'⟩ := (hr'.out.bel hb) k _ (intCells_get hlt')
        have hi1 : (k : Int) < (l.length : Int) := by omega
        have hi2 : (k : Int) < (l'.length : Int) := by omega
        have HS := Lib.hid hsame
        have HB := Lib.hid hb
        clear hsame hb
        by_cases hd : l[k] = l'[k]
        · have hd' : (l[k] != l'[k]) = false := by simp [hd]
          have HD := Lib.hid hd
          clear hd
          go_wp2
          go_quiet (fail)
          go_wp2
          go_roundw
          case rel => exact ⟨k + 1, by omega, by go_num, fun j h1 h2 hj => by
            rcases Nat.lt_or_ge j k with h | h
            · exact HS.out j h1 h2 h
            · obtain rfl : j = k := by omega
              exact HD.out, bel_drewN HB.out _⟩
          case measure => simp [intOf]; omega
        · have hd' : (l[k] != l'[k]) = true := by simpa using hd
          have X := Lib.hid (beq_of_diff hlt hlt' hd)
          clear hd
          go_wp2
          go_quiet (fail)
          go_wp2
          go_ret
          exact .mk (by rw [X.out]; rfl) (bel_drewN HB.out _)
      · obtain rfl : k = l.length := by omega
        have X := Lib.hid (beq_of_all HL.out fun j h1 h2 => hsame j h1 h2 h1)
        have HB := Lib.hid hb
        clear hsame hb
        go_wp2
        go_ret
        exact .mk (by rw [X.out]; rfl) HB.out
  · have e1 : ((l.length : Int) != (l'.length : Int)) = true := by simp; omega
    have X := Lib.hid (beq_of_len hl)
    clear hl
    go_enter Tryz.func16, Tryz.ntmps16
    go_wp2
    go_ret
    exact .mk (by rw [X.out]; rfl) (Below.refl _ _)
theorem likeInts_same {l : List Int} {a a' : Option Addr} {n c n' c' : Nat} {w : World} (hn : l.length = n) (hn' : l.length = n') (hm : n ≤ 1048576) (hm' : n' ≤ 1048576) (hr : Row w a (intCells l)) (hr' : Row w a' (intCells l)) :
    Calls Tryz.prog 16 #[.slice a n c, .slice a' n' c'] w (Ret w (.bool true)) := by
  have h := likeInts_any l l a a' n c n' c' w hn hn' hm hm' hr hr'
  rw [beq_self_eq_true] at h
  exact h
theorem big_no (a : Option Addr) (n c : Nat) (w : World) (hn : n ≤ 4096) : Calls Tryz.prog 4 #[.slice a n c] w (Ret w (.bool false)) := by
  have h : ¬ (n : Int) > 4096 := by omega
  go_enter Tryz.func4, Tryz.ntmps4
  go_wp2
  go_ret
  exact .mk (by simp [*]) (Below.refl _ _)
theorem big_yes (a : Option Addr) (n c : Nat) (w : World) (hn : 4096 < n) (hm : n ≤ maxLen) : Calls Tryz.prog 4 #[.slice a n c] w (Ret w (.bool true)) := by
  unfold maxLen at hm
  have h : (n : Int) > 4096 := by omega
  go_enter Tryz.func4, Tryz.ntmps4
  go_wp2
  go_ret
  exact .mk (by simp [*]) (Below.refl _ _)
end Go.Proofs.YtemfhcmeeldngaaGreatDoor

/- Rows of a call's own in later worlds (as in the texts Two and DrawM, for the seats of claims). -/
set_option linter.unusedSimpArgs false
set_option linter.unusedVariables false
namespace Go.Proofs.YtemfhcmeeldngaaGreatDoor
open Go.RowKit
theorem owns_alloc {w : World} {lo hi e s n : Nat} {a : Option Addr} {c : Nat} {xs : List Value} (h : Owns w lo hi e s n a c xs) (o : Obj) : Owns (w.alloc o) lo hi e s n a c xs := ⟨h.own.alloc o, h.lt⟩
theorem owns_set {w : World} {lo hi e s n : Nat} {a : Option Addr} {c : Nat} {xs : List Value} (h : Owns w lo hi e s n a c xs) {p : Addr} (hp : p.block < lo ∨ hi ≤ p.block) (u : Value) : Owns (w.setCell p u) lo hi e s n a c xs :=
  ⟨own_btw h.own (lo := p.block) (hi := p.block + 1) ((Between.refl _ _ _).set (Nat.le_refl _) (Nat.lt_succ_self _) u) fun k hk => by
    cases a with
    | none => simp [Value.ownBlock] at hk
    | some q =>
      simp only [Value.ownBlock, Option.some.injEq] at hk
      have h1 := h.lt q rfl
      have h2 := h.ge q rfl
      subst hk
      omega, h.lt⟩
theorem owns_wide {w : World} {lo hi lo' hi' e s n : Nat} {a : Option Addr} {c : Nat} {xs : List Value} (h : Owns w lo hi e s n a c xs) (h1 : lo' ≤ lo) (h2 : hi ≤ hi') : Owns w lo' hi' e s n a c xs := ⟨own_mono h.own h1, fun p hp => Nat.lt_of_lt_of_le (h.lt p hp) h2⟩
theorem owns_after {w : World} {lo hi lo' hi' e s n : Nat} {a : Option Addr} {c : Nat} {xs : List Value} (x : After w lo' hi') (h : Owns w lo hi e s n a c xs) (ho : hi ≤ lo' ∨ hi' ≤ lo) : Owns x.w lo hi e s n a c xs := h.btw x.btw ho
theorem owns_later {w : World} {lo hi e s n : Nat} {a : Option Addr} {c : Nat} {xs : List Value} (x : Later w) (h : Owns w lo hi e s n a c xs) (ho : hi ≤ w.heap.size) : Owns x.w lo hi e s n a c xs := h.bel x.bel ho
theorem owns_drew {w : World} {lo hi e s n : Nat} {a : Option Addr} {c : Nat} {xs : List Value} (h : Owns w lo hi e s n a c xs) : Owns w.drew lo hi e s n a c xs := h.bel (B := hi) (Below.refl _ _).drew (Nat.le_refl _)
end Go.Proofs.YtemfhcmeeldngaaGreatDoor

/- A drawn region in which one operation (the making of a variable's block) may come at any time among the calls. -/
set_option linter.unusedSimpArgs false
set_option linter.unusedVariables false
namespace Go.Proofs.YtemfhcmeeldngaaGreatDoor
open Go.RowKit
section
variable {P : Program} {ops : Array Oper} {C : World → Prop} {Q : Exit → Act → World → Prop}
/-- `f` floats: at each call it may come first. -/
def wpFloat (P : Program) (ops : Array Oper) (C : World → Prop) (Q : Exit → Act → World → Prop) (f : Nat) : List (Nat × Bool) → Act → World → Prop
  | [], a, w => False
  | (i, true) :: r, a, w => ∃ o, ops[i]? = some o ∧ if Region.wanted o (yielded ops a.tmps) then o.quiet P a C (fun a' => wpFloat P ops C Q f r a' w) else wpFloat P ops C Q f r (a.put o.dst undef) w
  | (i, false) :: r, a, w => if i = f then wpOp P ops Q i (fun a' w' => C w' ∧ wpPlan P ops C Q r a' w') a w else
      wpOp P ops Q i (fun a' w' => C w' ∧ wpFloat P ops C Q f r a' w') a w ∧ wpOp P ops Q f (fun a' w' => C w' ∧ wpPlan P ops C Q ((i, false) :: r.filter (fun x => x.1 != f)) a' w') a w
def floatB (ops : Array Oper) (f : Nat) : List (Nat × Bool) → Array Bool → Bool
  | [], listed => false
  | (i, true) :: r, listed => (Region.ready .any ops listed).contains i && Region.free .any ops listed i && ((ops[i]?).map fun o => opQuiet o.op).getD false && floatB ops f r (listed.setIfInBounds i true)
  | (i, false) :: r, listed => if i = f then Region.ready .any ops listed == [i] && planB ops r (listed.setIfInBounds i true) else
      (Region.ready .any ops listed == [i, f] || Region.ready .any ops listed == [f, i]) && floatB ops f r (listed.setIfInBounds i true) && planB ops ((i, false) :: r.filter (fun x => x.1 != f)) (listed.setIfInBounds f true) &&
        (r.filter (fun x => x.1 != f)).length + 1 == r.length
theorem wpAnyH_of_float (f : Nat) (hs : Region.noSelect ops = true) (hQ : ∀ c a (d : Option Tmp) v w, Q (.panic c) (a.put d v) w → Q (.panic c) a w) :
    ∀ (l : List (Nat × Bool)) (listed : Array Bool) (a : Act) (w : World), floatB ops f l listed = true → C w → wpFloat P ops C Q f l a w → wpAnyH P .any ops Q C l.length listed a w
  | [], listed, a, w, hB, _, h => h.elim
  | (i, true) :: r, listed, a, w, hB, hC, h => by
    simp only [floatB, Bool.and_eq_true] at hB
    obtain ⟨⟨⟨h1, h2⟩, h3⟩, h4⟩ := hB
    obtain ⟨o, ho, hh⟩ := h
    simp only [ho, Option.map_some, Option.getD_some] at h3
    by_cases hw : Region.wanted o (yielded ops a.tmps) = true
    · rw [if_pos hw] at hh
      obtain ⟨v, hv, hn⟩ := hh
      refine wpAnyH_take (v := v) ho hs h2 h1 (fun c a w => hQ c a _ v w) (.inl ⟨hw, fun w' hw' => ?_⟩) hC (wpAnyH_of_float f hs hQ r _ _ _ h4 hC hn)
      have := hv w' hw'
      unfold Oper.quietAt at this
      generalize hr : (execOp a.eval o).run P w' = res at this
      cases res with
      | halt x w1 => simp only [Oper.quietUpon] at this
      | ok n w1 =>
        obtain ⟨u, rfl⟩ := value_of_quiet h3 hr
        simp only [Oper.quietUpon] at this
        rw [this.1, this.2]
    · rw [if_neg hw] at hh
      exact wpAnyH_take (v := undef) ho hs h2 h1 (fun c a w => hQ c a _ undef w) (.inr ⟨by simpa using hw, rfl⟩) hC (wpAnyH_of_float f hs hQ r _ _ _ h4 hC hh)
  | (i, false) :: r, listed, a, w, hB, hC, h => by
    by_cases hif : i = f
    · subst hif
      simp only [floatB, if_true, Bool.and_eq_true, beq_iff_eq] at hB
      simp only [wpFloat, if_true] at h
      refine wpAnyH_all hB.1 (by simp) fun j hj => ?_
      obtain rfl : j = i := by simpa using hj
      exact wpOp_mono (fun a' w' hh => ⟨hh.1, wpAnyH_of_plan hs hQ r _ a' w' hB.2 hh.1 hh.2⟩) h
    · simp only [floatB, if_neg hif, Bool.and_eq_true, Bool.or_eq_true, beq_iff_eq] at hB
      simp only [wpFloat, if_neg hif] at h
      obtain ⟨⟨⟨h1, h2⟩, h3⟩, h4⟩ := hB
      have hlen : ((i, false) :: r.filter (fun x => x.1 != f)).length = r.length := by simp only [List.length_cons]; exact h4
      have both : ∀ j, j ∈ Region.ready .any ops listed → j = i ∨ j = f := fun j hj => by
        rcases h1 with h1 | h1 <;> rw [h1] at hj <;> simp at hj <;> omega
      refine wpAnyH_all (rs := Region.ready .any ops listed) rfl (by rcases h1 with h1 | h1 <;> rw [h1] <;> simp) fun j hj => ?_
      rcases both j hj with rfl | rfl
      · exact wpOp_mono (fun a' w' hh => ⟨hh.1, wpAnyH_of_float f hs hQ r _ a' w' h2 hh.1 hh.2⟩) h.1
      · exact wpOp_mono (fun a' w' hh => ⟨hh.1, hlen ▸ wpAnyH_of_plan hs hQ _ _ a' w' h3 hh.1 hh.2⟩) h.2
theorem wp_region_float {id : Nat} {a : Act} {W : World} {l : List Oper} (f : Nat) (pl : List (Nat × Bool)) (hm : P.follows .mixedOrders = true) (hs : Region.noSelect l.toArray = true)
    (hB : floatB l.toArray f pl (Array.replicate l.toArray.size false) = true) (hl : pl.length = l.toArray.size) (hQ : ∀ c a (d : Option Tmp) v w, Q (.panic c) (a.put d v) w → Q (.panic c) a w)
    (hC : C W.drew) (h : wpFloat P l.toArray C Q f pl a W.drew) : (Code.region id l.toArray true).wp P Q a W :=
  wp_region_held hm (hl ▸ wpAnyH_of_float f hs hQ pl _ _ _ hB hC h)
theorem float_quiet {f i : Nat} {r : List (Nat × Bool)} {o : Oper} {a : Act} {w : World} (ho : ops[i]? = some o) (hw : Region.wanted o (yielded ops a.tmps) = true)
    (h : ∀ K : Act → Prop, (∀ a, wpFloat P ops C Q f r a w → K a) → o.quiet P a C K) : wpFloat P ops C Q f ((i, true) :: r) a w :=
  ⟨o, ho, by rw [if_pos hw]; exact h _ fun _ h => h⟩
theorem float_skip {f i : Nat} {r : List (Nat × Bool)} {o : Oper} {a a' : Act} {w : World} (ho : ops[i]? = some o) (hw : Region.wanted o (yielded ops a.tmps) = false) (ha : a.put o.dst undef = a')
    (h : wpFloat P ops C Q f r a' w) : wpFloat P ops C Q f ((i, true) :: r) a w := by
  subst ha
  exact ⟨o, ho, by rw [if_neg (by rw [hw]; decide)]; exact h⟩
theorem op_loud {i : Nat} {o : Oper} {a : Act} {w : World} {K0 : Act → World → Prop} (ho : ops[i]? = some o) (hw : Region.wanted o (yielded ops a.tmps) = true)
    (h : ∀ K : Act → World → Prop, (∀ a w', K0 a w' → K a w') → o.wp P a w K Q) : wpOp P ops Q i K0 a w := by
  unfold wpOp
  rw [ho]
  show if Region.wanted o (yielded ops a.tmps) = true then _ else _
  rw [if_pos hw]
  exact .inl (h _ fun _ _ h1 => h1)
theorem float_fork {f i : Nat} {r : List (Nat × Bool)} {o o' : Oper} {a : Act} {w : World} (hif : (i == f) = false) (ho : ops[i]? = some o) (ho' : ops[f]? = some o') (hw : Region.wanted o (yielded ops a.tmps) = true) (hw' : Region.wanted o' (yielded ops a.tmps) = true)
    (h : ∀ K : Act → World → Prop, (∀ a w', C w' → wpFloat P ops C Q f r a w' → K a w') → o.wp P a w K Q)
    (h' : ∀ K : Act → World → Prop, (∀ a w', C w' → wpPlan P ops C Q ((i, false) :: r.filter (fun x => x.1 != f)) a w' → K a w') → o'.wp P a w K Q) : wpFloat P ops C Q f ((i, false) :: r) a w := by
  simp only [beq_eq_false_iff_ne] at hif
  simp only [wpFloat, if_neg hif]
  exact ⟨op_loud ho hw fun K hK => h K fun a w' h1 h2 => hK a w' ⟨h1, h2⟩, op_loud ho' hw' fun K hK => h' K fun a w' h1 h2 => hK a w' ⟨h1, h2⟩⟩
theorem float_last {f : Nat} {r : List (Nat × Bool)} {o : Oper} {a : Act} {w : World} (ho : ops[f]? = some o) (hw : Region.wanted o (yielded ops a.tmps) = true)
    (h : ∀ K : Act → World → Prop, (∀ a w', C w' → wpPlan P ops C Q r a w' → K a w') → o.wp P a w K Q) : wpFloat P ops C Q f ((f, false) :: r) a w := by
  simp only [wpFloat, if_true]
  exact op_loud ho hw fun K hK => h K fun a w' h1 h2 => hK a w' ⟨h1, h2⟩
end
theorem alloc_cell_if (w : World) (c : Array Value) (t b i : Nat) : (w.alloc (.cells c t)).cell? ⟨b, i, none⟩ = if b < w.heap.size then w.cell? ⟨b, i, none⟩ else if b = w.heap.size then c[i]? else none := by
  by_cases h : b < w.heap.size
  · rw [if_pos h]; exact World.cell?_alloc_lt w _ _ h
  · rw [if_neg h]
    by_cases h2 : b = w.heap.size
    · rw [if_pos h2]; exact World.cell?_alloc_at c t b i h2
    · rw [if_neg h2]
      have : (w.alloc (.cells c t)).heap[b]? = none := Array.getElem?_eq_none (by simp; omega)
      simp [World.cell?, this]
theorem alloc_frozen_if (w : World) (c : Array Value) (t b i : Nat) : (w.alloc (.cells c t)).frozen? ⟨b, i, none⟩ = if b < w.heap.size then w.frozen? ⟨b, i, none⟩ else false := by
  by_cases h : b < w.heap.size
  · rw [if_pos h]; exact World.frozen?_of_block (w := w) (Below.heap_alloc w _ b h)
  · rw [if_neg h]
    by_cases h2 : b = w.heap.size
    · exact World.frozen?_alloc_at c t b i h2
    · have : (w.alloc (.cells c t)).heap[b]? = none := Array.getElem?_eq_none (by simp; omega)
      simp [World.frozen?, this]
attribute [go_sem low] alloc_cell_if alloc_frozen_if
end Go.Proofs.YtemfhcmeeldngaaGreatDoor

/- A drawn region, whatever the order: an invariant in the place of the orders. Each operation is proved once, in every state in which it can come up. -/
set_option linter.unusedSimpArgs false
set_option linter.unusedVariables false
namespace Go.Proofs.YtemfhcmeeldngaaGreatDoor
open Go.RowKit
/-- The act once each operation has put what `x` says. -/
def putAll : List Oper → Nat → (Nat → Value) → Act → Act
  | [], _, _, a => a
  | o :: l, k, x, a => putAll l (k + 1) x (a.put o.dst (x k))
/-- No two operations write the same slot. -/
def apartI : List Oper → Bool
  | [] => true
  | o :: l => (match o.dst with | some d => l.all fun o' => o'.dst != some d | none => true) && apartI l
theorem put_put (a : Act) (d : Option Tmp) (u v : Value) : (a.put d u).put d v = a.put d v := by
  cases d with
  | none => rfl
  | some d => simp [Act.put]
theorem put_comm (a : Act) {d e : Option Tmp} (h : d ≠ e) (u v : Value) : (a.put d u).put e v = (a.put e v).put d u := by
  cases d with
  | none => rfl
  | some d =>
    cases e with
    | none => rfl
    | some e =>
      have hne : d ≠ e := fun he => h (by rw [he])
      simp only [Act.put]
      rw [Array.setIfInBounds_comm _ _ hne]
theorem put_self (a : Act) (d : Option Tmp) : ∃ v, a.put d v = a := by
  cases d with
  | none => exact ⟨undef, rfl⟩
  | some d =>
    refine ⟨a.tmps.getD d undef, ?_⟩
    simp only [Act.put]
    congr 1
    apply Array.ext
    · simp
    · intro i h1 h2
      rw [Array.getElem_setIfInBounds (by simpa using h1)]
      split
      · rename_i h; subst h; simp [Array.getD, h2]
      · rfl
theorem putAll_self (a : Act) : ∀ (l : List Oper) (k : Nat), ∃ x, putAll l k x a = a
  | [], k => ⟨fun _ => undef, rfl⟩
  | o :: l, k => by
    obtain ⟨v, hv⟩ := put_self a o.dst
    obtain ⟨x, hx⟩ := putAll_self a l (k + 1)
    refine ⟨fun j => if j = k then v else x j, ?_⟩
    have e : ∀ (l : List Oper) (k' : Nat) (b : Act), k < k' → putAll l k' (fun j => if j = k then v else x j) b = putAll l k' x b := by
      intro l
      induction l with
      | nil => intro k' b _; rfl
      | cons o l ih =>
        intro k' b hk
        simp only [putAll]
        rw [if_neg (by omega), ih _ _ (by omega)]
    simp only [putAll, if_true]
    rw [hv, e _ _ _ (by omega), hx]
theorem putAll_agree {x y : Nat → Value} : ∀ (l : List Oper) (k : Nat) (a : Act), (∀ j, k ≤ j → x j = y j) → putAll l k x a = putAll l k y a
  | [], _, _, _ => rfl
  | o :: l, k, a, h => by
    simp only [putAll]
    rw [h k (Nat.le_refl _), putAll_agree l (k + 1) _ fun j hj => h j (by omega)]
theorem putAll_put {d : Option Tmp} {v : Value} {x : Nat → Value} : ∀ (l : List Oper) (k : Nat) (a : Act), (∀ o ∈ l, o.dst ≠ d ∨ d = none) → (putAll l k x a).put d v = putAll l k x (a.put d v)
  | [], _, _, _ => rfl
  | o :: l, k, a, h => by
    simp only [putAll]
    rw [putAll_put l (k + 1) _ fun o' ho' => h o' (by simp [ho'])]
    rcases h o (by simp) with h1 | h1
    · rw [put_comm _ h1]
    · subst h1; rfl
theorem putAll_at {v : Value} {x : Nat → Value} : ∀ (l : List Oper) (k i : Nat) (o : Oper) (a : Act), apartI l = true → l[i]? = some o → (putAll l k x a).put o.dst v = putAll l k (fun j => if j = k + i then v else x j) a
  | [], _, _, _, _, _, h => by simp at h
  | o' :: l, k, 0, o, a, hap, h => by
    obtain rfl : o' = o := by simpa using h
    simp only [apartI, Bool.and_eq_true] at hap
    simp only [putAll, Nat.add_zero, if_true]
    rw [putAll_put, put_put]
    · exact putAll_agree _ _ _ fun j hj => by rw [if_neg (by omega)]
    · intro q hq
      cases hd : o'.dst with
      | none => exact .inr rfl
      | some d =>
        rw [hd] at hap
        have := List.all_eq_true.1 hap.1 q hq
        exact .inl (by simpa using this)
  | o' :: l, k, i + 1, o, a, hap, h => by
    simp only [apartI, Bool.and_eq_true] at hap
    simp only [putAll]
    rw [putAll_at l (k + 1) i o _ hap.2 (by simpa using h), if_neg (by omega)]
    congr 1
    funext j
    rw [show k + 1 + i = k + (i + 1) by omega]
section
variable {P : Program}
/-- What each operation owes. -/
def owesAll (P : Program) (ops : Array Oper) (Q : Exit → Act → World → Prop) (C : World → Prop) (Ev : World → World → Prop) (Φ : Nat → Value → World → Prop) (L J : Nat) (Ψ : Value → World → Prop) (A : (Nat → Value) → Act) : List Oper → Nat → Prop
  | [], _ => True
  | o :: l, k => (∀ x w, C w → (∀ e ∈ o.after, Region.binds .any e = true → Φ e.on (x e.on) w) → wpOp P ops Q k (fun a' w' => ∃ v, a' = (A x).put o.dst v ∧ C w' ∧ Ev w w' ∧ Φ k v w' ∧ (k = L → Ψ (x J) w')) (A x) w) ∧ owesAll P ops Q C Ev Φ L J Ψ A l (k + 1)
theorem owes_at {ops : Array Oper} {Q : Exit → Act → World → Prop} {C : World → Prop} {Ev : World → World → Prop} {Φ : Nat → Value → World → Prop} {L J : Nat} {Ψ : Value → World → Prop} {A : (Nat → Value) → Act} : ∀ (l : List Oper) (k i : Nat) (o : Oper), owesAll P ops Q C Ev Φ L J Ψ A l k → l[i]? = some o →
    ∀ x w, C w → (∀ e ∈ o.after, Region.binds .any e = true → Φ e.on (x e.on) w) → wpOp P ops Q (k + i) (fun a' w' => ∃ v, a' = (A x).put o.dst v ∧ C w' ∧ Ev w w' ∧ Φ (k + i) v w' ∧ (k + i = L → Ψ (x J) w')) (A x) w
  | [], _, _, _, _, h => by simp at h
  | o' :: l, k, 0, o, hw, h => by
    obtain rfl : o' = o := by simpa using h
    exact hw.1
  | o' :: l, k, i + 1, o, hw, h => by
    have := owes_at l (k + 1) i o hw.2 (by simpa using h)
    rwa [show k + 1 + i = k + (i + 1) by omega] at this
/-- Each operation waits for earlier ones only. -/
def backB : List Oper → Nat → Bool
  | [], _ => true
  | o :: l, k => (o.after.all fun e => !Region.binds .any e || decide (e.on < k)) && backB l (k + 1)
theorem back_at : ∀ (l : List Oper) (k i : Nat) (o : Oper), backB l k = true → l[i]? = some o → ∀ e ∈ o.after, Region.binds .any e = true → e.on < k + i
  | [], _, _, _, _, h => by simp at h
  | o' :: l, k, 0, o, hb, h => by
    obtain rfl : o' = o := by simpa using h
    intro e he hbi
    simp only [backB, Bool.and_eq_true, Array.all_eq_true_iff_forall_mem] at hb
    have := hb.1 e he
    rw [hbi] at this
    simpa using this
  | o' :: l, k, i + 1, o, hb, h => by
    simp only [backB, Bool.and_eq_true] at hb
    have := back_at l (k + 1) i o hb.2 (by simpa using h)
    rwa [show k + 1 + i = k + (i + 1) by omega] at this
theorem cnt_lt {p q : Nat → Bool} {i : Nat} (hp : p i = true) (hq : q i = false) (h : ∀ j, q j = true → p j = true) : ∀ (l : List Nat), i ∈ l → l.countP q < l.countP p
  | [], hi => by simp at hi
  | a :: l, hi => by
    have hle : l.countP q ≤ l.countP p := List.countP_mono_left fun x _ => h x
    rw [List.countP_cons, List.countP_cons]
    by_cases ha : a = i
    · subst ha
      rw [hp, hq]
      simp
      omega
    · have h1 := cnt_lt hp hq h l (by simpa [Ne.symm ha] using hi)
      have h2 := h a
      cases hqa : q a
      · cases hpa : p a <;> simp <;> omega
      · rw [h2 hqa]; simp; omega
theorem getD_in2 {listed : Array Bool} {j n : Nat} (hs : listed.size = n) (hj : j < n) (b : Bool) : listed.getD j b = listed[j]'(by omega) := by
  rw [Array.getD, dif_pos (by omega)]; rfl
/-- The operation L waits for J (or there is no L). -/
def waitsB (l : List Oper) (L J : Nat) : Bool := match l[L]? with | none => true | some o => J != L && o.after.any fun e => e.on == J && Region.binds .any e
set_option maxHeartbeats 1000000 in
/-- Each operation comes up, in whatever order, where those it waits for are done. -/
theorem wp_region_inv {id : Nat} {Q : Exit → Act → World → Prop} {a : Act} {W : World} {l : List Oper} (C : World → Prop) (Ev : World → World → Prop) (Φ : Nat → Value → World → Prop) (L J : Nat) (Ψ : Value → World → Prop) (hLJ : waitsB l L J = true) (hm : P.follows .mixedOrders = true) (hap : apartI l = true) (hbk : backB l 0 = true)
    (hC : C W.drew) (hst : ∀ i v w w', Ev w w' → Φ i v w → Φ i v w') (hstΨ : ∀ v w w', Ev w w' → Ψ v w → Ψ v w') (hop : owesAll P l.toArray Q C Ev Φ L J Ψ (fun x => putAll l 0 x a) l 0)
    (hend : ∀ x w, C w → (∀ i, i < l.length → Φ i (x i) w) → (L < l.length → Ψ (x J) w) → Q .normal (putAll l 0 x a) w) : (Code.region id l.toArray true).wp P Q a W := by
  have hfull : ∀ listed : Array Bool, listed.size = l.length → Region.ready .any l.toArray listed = [] → ∀ i, i < l.length → listed.getD i true = true := by
    intro listed hs h0 i
    induction i using Nat.strongRecOn with
    | _ i ih =>
      intro hi
      by_cases h1 : listed.getD i true = true
      · exact h1
      · exfalso
        have ho : l.toArray[i]? = some l[i] := by simp [hi]
        have hmem : i ∈ Region.ready .any l.toArray listed := mem_ready.2 ⟨by simpa using h1, l[i], ho, fun e he hb => by
          have h2 := back_at l 0 i l[i] hbk (by simp [hi]) e he hb
          rw [Nat.zero_add] at h2
          have h3 := ih e.on h2 (by omega)
          rw [getD_in2 hs (by omega)] at h3 ⊢
          exact h3⟩
        rw [h0] at hmem
        cases hmem
  have key : ∀ (f : Nat) (listed : Array Bool) (a' : Act) (w : World), listed.size = l.length → C w → (∃ x, a' = putAll l 0 x a ∧ (∀ i, i < l.length → listed.getD i true = true → Φ i (x i) w) ∧ (L < l.length → listed.getD L true = true → Ψ (x J) w ∧ listed.getD J true = true)) →
      (List.range l.length).countP (fun i => !listed.getD i true) ≤ f → wpAny P .any l.toArray Q f listed a' w := by
    intro f
    induction f with
    | zero =>
      rintro listed a' w hs hCw ⟨x, rfl, hx, hxL⟩ hf
      have hno : ∀ i, i < l.length → listed.getD i true = true := fun i hi => by
        have h0 := List.countP_eq_zero.1 (Nat.le_zero.1 hf) i (by simpa using hi)
        simpa using h0
      refine ⟨?_, hend x w hCw (fun i hi => hx i hi (hno i hi)) fun hL => (hxL hL (hno L hL)).1⟩
      unfold Region.ready
      rw [List.filter_eq_nil_iff]
      intro i hi
      rw [hno i (by simpa using hi)]
      simp
    | succ f ih =>
      rintro listed a' w hs hCw ⟨x, rfl, hx, hxL⟩ hf
      refine ⟨fun h0 => hend x w hCw (fun i hi => hx i hi (hfull listed hs h0 i hi)) (fun hL => (hxL hL (hfull listed hs h0 L hL)).1), fun i hi => ?_⟩
      obtain ⟨hun, o, ho, hdeps⟩ := mem_ready.1 hi
      have hil : i < l.length := by
        have := (Array.getElem?_eq_some_iff.1 ho).1
        simpa using this
      have ho' : l[i]? = some o := by simpa using ho
      have H := owes_at l 0 i o hop ho' x w hCw fun e he hb => by
        have h1 := hdeps e he hb
        have h2 : e.on < l.length := by
          rcases Nat.lt_or_ge e.on l.length with h3 | h3
          · exact h3
          · rw [Array.getD, dif_neg (by omega)] at h1; cases h1
        rw [getD_in2 hs h2] at h1
        exact hx _ h2 (by rw [getD_in2 hs h2]; exact h1)
      rw [Nat.zero_add] at H
      refine wpOp_mono ?_ H
      rintro a' w' ⟨v, rfl, hC', hEv, hv, hvL⟩
      refine ih _ _ _ (by simpa using hs) hC' ⟨fun j => if j = i then v else x j, ?_, fun j hj hlj => ?_, fun hL hlL => ?_⟩ ?_
      · have := putAll_at (v := v) (x := x) l 0 i o a hap ho'
        rw [Nat.zero_add] at this
        exact this
      · by_cases hji : j = i
        · subst hji; simpa using hv
        · simp only [if_neg hji]
          refine hst _ _ _ _ hEv (hx j hj ?_)
          rwa [getD_set_ne true (Ne.symm hji)] at hlj
      · have hJ : J ≠ L ∧ ∃ e ∈ (l[L]'hL).after, e.on = J ∧ Region.binds .any e = true := by
          unfold waitsB at hLJ
          rw [List.getElem?_eq_getElem hL] at hLJ
          simp only [Bool.and_eq_true, bne_iff_ne, ne_eq] at hLJ
          refine ⟨hLJ.1, ?_⟩
          have h9 := hLJ.2
          rw [← Array.any_toList, List.any_eq_true] at h9
          obtain ⟨e, he, hc⟩ := h9
          simp only [Bool.and_eq_true, beq_iff_eq] at hc
          exact ⟨e, by simpa using he, hc.1, hc.2⟩
        obtain ⟨hJL, e, he, heJ, heb⟩ := hJ
        by_cases hLi : L = i
        · subst hLi
          have ho2 : l[L]'hL = o := by
            rw [List.getElem?_eq_getElem hL] at ho'
            exact Option.some.inj ho'
          rw [ho2] at he
          have h1 := hdeps e he heb
          rw [heJ] at h1
          have h2 : J < l.length := by
            rcases Nat.lt_or_ge J l.length with h3 | h3
            · exact h3
            · rw [Array.getD, dif_neg (by omega)] at h1; cases h1
          simp only [if_neg hJL]
          refine ⟨hvL rfl, ?_⟩
          rw [getD_set_ne true (Ne.symm hJL)]
          rw [getD_in2 hs h2] at h1 ⊢
          exact h1
        · rw [getD_set_ne true (Ne.symm hLi)] at hlL
          obtain ⟨p1, p2⟩ := hxL hL hlL
          by_cases hJi : J = i
          · subst hJi
            have : listed.getD J true = false := by simpa using hun
            rw [this] at p2; cases p2
          · simp only [if_neg hJi]
            refine ⟨hstΨ _ _ _ hEv p1, ?_⟩
            rw [getD_set_ne true (Ne.symm hJi)]; exact p2
      · have h1 := cnt_lt (p := fun i => !listed.getD i true) (q := fun j => !(listed.setIfInBounds i true).getD j true) (i := i) (by simpa using hun) (by rw [getD_in2 (n := l.length) (by simpa using hs) hil]; simp) (fun j hj => by
          by_cases hji : j = i
          · subst hji; simpa using hun
          · rwa [getD_set_ne true (Ne.symm hji)] at hj) (List.range l.length) (by simpa using hil)
        omega
  have hlen : l.toArray.size = l.length := by simp
  obtain ⟨x0, hx0⟩ := putAll_self a l 0
  refine wp_region_any hm ?_
  rw [hlen]
  refine key _ _ _ _ (by simp) hC ⟨x0, hx0.symm, fun i hi hl => ?_, fun hL hl => ?_⟩ ?_
  · rw [getD_in2 (n := l.length) (by simp) hi] at hl
    simp at hl
  · rw [getD_in2 (n := l.length) (by simp) hL] at hl
    simp at hl
  · exact Nat.le_trans (List.countP_le_length) (by simp)
end
end Go.Proofs.YtemfhcmeeldngaaGreatDoor

/- append as one operation, to a row of the call's own: where the new row lies. -/
set_option linter.unusedSimpArgs false
set_option linter.unusedVariables false
namespace Go.Proofs.YtemfhcmeeldngaaGreatDoor
open Go.RowKit
section
variable {P : Program} (w : World)
theorem oper_append_apart {o : Oper} {ac : Act} {K : Act → World → Prop} {Q : Exit → Act → World → Prop} (s x : Operand) (t : TypeId)
    (ho : o.op = .call { callee := .builtin .append, args := #[s, x], argTypes := #[t, t] })
    (e : TypeId) (i : TypeInfo) (z : Value) (size bytes : Nat) (ht : P.underlying t = some (.slice e)) (hi : P.info? e = some i) (hz : i.zero = some z)
    (hsize : i.size = size) (hby : i.bytes = bytes) (hzs : z.cells.size = size) (hsz : 0 < size)
    (lo hi' : Nat) (hlw : lo ≤ w.heap.size) (a : Option Addr) (n cap : Nat) (xs : List Value) (hs : ac.eval s = .slice a n cap) (hown : w.ownsRow lo e size (.slice a n cap) n xs) (hlt : ∀ p : Addr, a = some p → p.block < hi')
    (A : Option Addr) (m c : Nat) (news : List Value) (hx : ac.eval x = .slice A m c) (hl : news.length = m * size) (hr : Row w A news) (h1 : ∀ u ∈ news, u.oneCell' = true)
    (h63 : n + m ≤ maxLen) (hbytes : (n + m) * bytes ≤ 140737488355328)
    (h : ∀ a' c' (x : After w lo hi'), x.w.ownsRow lo e size (.slice a' (n + m) c') (n + m) (xs ++ news) → (∀ p : Addr, a' = some p → p.block < hi' ∨ w.heap.size ≤ p.block) → K (ac.put o.dst (.slice a' (n + m) c')) x.w) :
    o.wp P ac w K Q := by
    obtain ⟨v', w', hrun, h2, h3, h4⟩ := run_append_row (P := P) w lo t o.type e i z size bytes ht hi hz hsize hby hzs hsz _ n xs hown A m c news hl hr h1 h63 hbytes hlw
    obtain ⟨a', c', rfl⟩ := own_form h2
    have hb' : Between lo hi' w w' := ⟨h3.os, h3.tape, h3.output, h3.size, fun k hk hor => h3.block k hk fun e => by
      cases a with
      | none => simp [Value.ownBlock] at e
      | some q =>
        have e1 : q.block = k := by simpa [Value.ownBlock] using e.symm
        have := hlt q rfl
        have := (hown.lt q.block rfl).1
        omega⟩
    have hp : ∀ p : Addr, a' = some p → p.block < hi' ∨ w.heap.size ≤ p.block := fun p hp => by
      subst hp
      rcases h4 with h4 | h4
      · cases a with
        | none => simp [Value.ownBlock] at h4
        | some q =>
          have e1 : p.block = q.block := by simpa [Value.ownBlock] using h4
          exact .inl (by rw [e1]; exact hlt q rfl)
      · have e1 : p.block = w.heap.size := by simpa [Value.ownBlock] using h4
        exact .inr (by omega)
    unfold Oper.wp execOp
    simp only [ho, resolve, invoke, builtin, Sem.run_bind, Sem.run_pure, Result.andThen_ok, List.map_toArray, List.map_cons, List.map_nil, hs, hx, hrun]
    exact h a' c' ⟨w', hb'⟩ h2 hp
end
end Go.Proofs.YtemfhcmeeldngaaGreatDoor
