import Derived.Test.YtklcaphkfdlipaaGreatDoorPackVa
/- The source of drawn numbers: what is asked of it, and the contracts of its functions: some number in the range, whatever it is. -/
set_option linter.unusedSimpArgs false
set_option linter.unusedVariables false
namespace Go.Proofs.YtklcaphkfdlipaaGreatDoor
open Go.RowKit
/-- Only the blocks g and k have turned. -/
structure But (g k : Nat) (w w' : World) : Prop where
  os : w'.os = w.os
  tape : w'.tape = w.tape
  output : w'.output = w.output
  size : w.heap.size ≤ w'.heap.size
  block : ∀ i, i < w.heap.size → i ≠ g → i ≠ k → w'.heap[i]? = w.heap[i]?
theorem But.refl (g k : Nat) (w : World) : But g k w w := ⟨rfl, rfl, rfl, Nat.le_refl _, fun _ _ _ _ => rfl⟩
theorem But.set {g k : Nat} {a w : World} (h : But g k a w) {p : Addr} (hp : p.block = g ∨ p.block = k) (u : Value) : But g k a (w.setCell p u) :=
  ⟨h.os, h.tape, h.output, by simpa [World.setCell] using h.size, fun i hi h1 h2 => (Below.heap_setCell w p u i (by omega)).trans (h.block i hi h1 h2)⟩
theorem But.drew {g k : Nat} {a w : World} (h : But g k a w) : But g k a w.drew := ⟨h.os, h.tape, h.output, h.size, h.block⟩
theorem But.drewN {g k : Nat} {a w : World} (h : But g k a w) (n : Nat) : But g k a (w.drewN n) := ⟨h.os, h.tape, h.output, h.size, h.block⟩
theorem But.trans {g k : Nat} {a b c : World} (h : But g k a b) (h2 : But g k b c) : But g k a c :=
  ⟨h2.os.trans h.os, h2.tape.trans h.tape, h2.output.trans h.output, Nat.le_trans h.size h2.size, fun i hi h3 h4 => (h2.block i (Nat.lt_of_lt_of_le hi h.size) h3 h4).trans (h.block i hi h3 h4)⟩
theorem But.later {g k : Nat} {a w w' : World} (h : But g k a w) (hb : Below w.heap.size w w') : But g k a w' :=
  ⟨hb.os.trans h.os, hb.tape.trans h.tape, hb.output.trans h.output, Nat.le_trans h.size hb.size, fun i hi h1 h2 => (hb.block i (Nat.lt_of_lt_of_le hi h.size)).trans (h.block i hi h1 h2)⟩
theorem But.after {g k : Nat} {a w : World} (x : After w g (g + 1)) (h : But g k a w) : But g k a x.w :=
  h.trans ⟨x.btw.os, x.btw.tape, x.btw.output, x.btw.size, fun i hi h1 _ => x.btw.block i hi (by omega)⟩
/-- A block made since `w` does not count. -/
theorem But.btw {g k : Nat} {a b c : World} (h : But g k b c) (h0 : Between g (g + 1) a b) (hk : a.heap.size ≤ k) : Between g (g + 1) a c :=
  ⟨h.os.trans h0.os, h.tape.trans h0.tape, h.output.trans h0.output, Nat.le_trans h0.size h.size, fun i hi hor => (h.block i (Nat.lt_of_lt_of_le hi h0.size) (by omega) (by omega)).trans (h0.block i hi hor)⟩
structure Aft (W : World) (g k : Nat) where
  w : World
  but : But g k W w
instance (W : World) (g k : Nat) : Nonempty (Aft W g k) := ⟨⟨W, But.refl _ _ _⟩⟩
@[irreducible] def Aft.far {W : World} {g k : Nat} (x : Aft W g k) (a : Addr) : Option Value := x.w.cell? a
@[irreducible] def Aft.farFrozen {W : World} {g k : Nat} (x : Aft W g k) (a : Addr) : Bool := x.w.frozen? a
theorem Aft.cell {W : World} {g k : Nat} (x : Aft W g k) (b o : Nat) (s : Option Nat) :
    x.w.cell? ⟨b, o, s⟩ = if b < W.heap.size then (if b = g then x.far ⟨b, o, s⟩ else if b = k then x.far ⟨b, o, s⟩ else W.cell? ⟨b, o, s⟩) else x.far ⟨b, o, s⟩ := by
  by_cases h1 : b < W.heap.size
  · rw [if_pos h1]
    by_cases h2 : b = g
    · rw [if_pos h2]; unfold Aft.far; rfl
    · rw [if_neg h2]
      by_cases h3 : b = k
      · rw [if_pos h3]; unfold Aft.far; rfl
      · rw [if_neg h3]; exact World.cell?_of_block (w := W) (x.but.block b h1 h2 h3)
  · rw [if_neg h1]; unfold Aft.far; rfl
theorem Aft.frozen {W : World} {g k : Nat} (x : Aft W g k) (b o : Nat) (s : Option Nat) :
    x.w.frozen? ⟨b, o, s⟩ = if b < W.heap.size then (if b = g then x.farFrozen ⟨b, o, s⟩ else if b = k then x.farFrozen ⟨b, o, s⟩ else W.frozen? ⟨b, o, s⟩) else x.farFrozen ⟨b, o, s⟩ := by
  by_cases h1 : b < W.heap.size
  · rw [if_pos h1]
    by_cases h2 : b = g
    · rw [if_pos h2]; unfold Aft.farFrozen; rfl
    · rw [if_neg h2]
      by_cases h3 : b = k
      · rw [if_pos h3]; unfold Aft.farFrozen; rfl
      · rw [if_neg h3]; exact World.frozen?_of_block (w := W) (x.but.block b h1 h2 h3)
  · rw [if_neg h1]; unfold Aft.farFrozen; rfl
attribute [go_sem] Aft.cell Aft.frozen
def AftC (g k : Nat) (W w' : World) : Prop := ∃ x : Aft W g k, w' = x.w
attribute [go_sem] AftC
theorem AftC.mk {g k : Nat} {W w' : World} (h : But g k W w') : AftC g k W w' := ⟨⟨w', h⟩, rfl⟩
theorem Aft.btw {a W : World} {g k : Nat} (x : Aft W g k) (h0 : Between g (g + 1) a W) (hk : a.heap.size ≤ k) : Between g (g + 1) a x.w := x.but.btw h0 hk
theorem btw_own {g : Nat} {a w : World} (h : Between g (g + 1) a w) {p : Addr} (hp : a.heap.size ≤ p.block) (u : Value) : Between g (g + 1) a (w.setCell p u) :=
  ⟨h.os, h.tape, h.output, by simpa [World.setCell] using h.size, fun k hk hor => (Below.heap_setCell w p u k (by omega)).trans (h.block k hk hor)⟩

/-- Only the block g and the blocks from lo on and below hi have turned. -/
structure ButR (g lo hi : Nat) (w w' : World) : Prop where
  os : w'.os = w.os
  tape : w'.tape = w.tape
  output : w'.output = w.output
  size : w.heap.size ≤ w'.heap.size
  block : ∀ i, i < w.heap.size → i ≠ g → (i < lo ∨ hi ≤ i) → w'.heap[i]? = w.heap[i]?
theorem ButR.refl (g lo hi : Nat) (w : World) : ButR g lo hi w w := ⟨rfl, rfl, rfl, Nat.le_refl _, fun _ _ _ _ => rfl⟩
theorem ButR.set {g lo hi : Nat} {a w : World} (h : ButR g lo hi a w) {p : Addr} (hp : p.block = g ∨ (lo ≤ p.block ∧ p.block < hi)) (u : Value) : ButR g lo hi a (w.setCell p u) :=
  ⟨h.os, h.tape, h.output, by simpa [World.setCell] using h.size, fun i hi' h1 h2 => (Below.heap_setCell w p u i (by omega)).trans (h.block i hi' h1 h2)⟩
theorem ButR.drew {g lo hi : Nat} {a w : World} (h : ButR g lo hi a w) : ButR g lo hi a w.drew := ⟨h.os, h.tape, h.output, h.size, h.block⟩
theorem ButR.drewN {g lo hi : Nat} {a w : World} (h : ButR g lo hi a w) (n : Nat) : ButR g lo hi a (w.drewN n) := ⟨h.os, h.tape, h.output, h.size, h.block⟩
theorem ButR.after {g lo hi : Nat} {a w : World} (x : After w g (g + 1)) (h : ButR g lo hi a w) : ButR g lo hi a x.w :=
  ⟨x.btw.os.trans h.os, x.btw.tape.trans h.tape, x.btw.output.trans h.output, Nat.le_trans h.size x.btw.size, fun i hi' h1 h2 => (x.btw.block i (Nat.lt_of_lt_of_le hi' h.size) (by omega)).trans (h.block i hi' h1 h2)⟩
theorem ButR.later {g lo hi : Nat} {a w w' : World} (h : ButR g lo hi a w) (hb : Below w.heap.size w w') : ButR g lo hi a w' :=
  ⟨hb.os.trans h.os, hb.tape.trans h.tape, hb.output.trans h.output, Nat.le_trans h.size hb.size, fun i hi h1 h2 => (hb.block i (Nat.lt_of_lt_of_le hi h.size)).trans (h.block i hi h1 h2)⟩
structure AftR (W : World) (g lo hi : Nat) where
  w : World
  but : ButR g lo hi W w
instance (W : World) (g lo hi : Nat) : Nonempty (AftR W g lo hi) := ⟨⟨W, ButR.refl _ _ _ _⟩⟩
@[irreducible] def AftR.far {W : World} {g lo hi : Nat} (x : AftR W g lo hi) (a : Addr) : Option Value := x.w.cell? a
@[irreducible] def AftR.farFrozen {W : World} {g lo hi : Nat} (x : AftR W g lo hi) (a : Addr) : Bool := x.w.frozen? a
theorem AftR.cell {W : World} {g lo hi : Nat} (x : AftR W g lo hi) (b o : Nat) (s : Option Nat) :
    x.w.cell? ⟨b, o, s⟩ = if b < W.heap.size then (if b = g then x.far ⟨b, o, s⟩ else if b < lo then W.cell? ⟨b, o, s⟩ else if hi ≤ b then W.cell? ⟨b, o, s⟩ else x.far ⟨b, o, s⟩) else x.far ⟨b, o, s⟩ := by
  by_cases h1 : b < W.heap.size
  · rw [if_pos h1]
    by_cases h2 : b = g
    · rw [if_pos h2]; unfold AftR.far; rfl
    · rw [if_neg h2]
      by_cases h3 : b < lo
      · rw [if_pos h3]; exact World.cell?_of_block (w := W) (x.but.block b h1 h2 (.inl h3))
      · rw [if_neg h3]
        by_cases h4 : hi ≤ b
        · rw [if_pos h4]; exact World.cell?_of_block (w := W) (x.but.block b h1 h2 (.inr h4))
        · rw [if_neg h4]; unfold AftR.far; rfl
  · rw [if_neg h1]; unfold AftR.far; rfl
theorem AftR.frozen {W : World} {g lo hi : Nat} (x : AftR W g lo hi) (b o : Nat) (s : Option Nat) :
    x.w.frozen? ⟨b, o, s⟩ = if b < W.heap.size then (if b = g then x.farFrozen ⟨b, o, s⟩ else if b < lo then W.frozen? ⟨b, o, s⟩ else if hi ≤ b then W.frozen? ⟨b, o, s⟩ else x.farFrozen ⟨b, o, s⟩) else x.farFrozen ⟨b, o, s⟩ := by
  by_cases h1 : b < W.heap.size
  · rw [if_pos h1]
    by_cases h2 : b = g
    · rw [if_pos h2]; unfold AftR.farFrozen; rfl
    · rw [if_neg h2]
      by_cases h3 : b < lo
      · rw [if_pos h3]; exact World.frozen?_of_block (w := W) (x.but.block b h1 h2 (.inl h3))
      · rw [if_neg h3]
        by_cases h4 : hi ≤ b
        · rw [if_pos h4]; exact World.frozen?_of_block (w := W) (x.but.block b h1 h2 (.inr h4))
        · rw [if_neg h4]; unfold AftR.farFrozen; rfl
  · rw [if_neg h1]; unfold AftR.farFrozen; rfl
attribute [go_sem] AftR.cell AftR.frozen
def AftRC (g lo hi : Nat) (W w' : World) : Prop := ∃ x : AftR W g lo hi, w' = x.w
attribute [go_sem] AftRC
theorem AftRC.mk {g lo hi : Nat} {W w' : World} (h : ButR g lo hi W w') : AftRC g lo hi W w' := ⟨⟨w', h⟩, rfl⟩
def byteCells (l : List Int) : List Value := l.map (Value.int .u8)
theorem byteCells_get {l : List Int} {k : Nat} (h : k < l.length) : (byteCells l)[k]? = some (.int .u8 l[k]) := by simp [byteCells, h]
/-- Block `g` is a source: a code, a place in it, a seed. -/
def SrcAt (w : World) (g : Nat) (a : Option Addr) (n c : Nat) (l : List Int) (k : Nat) (s : Int) : Prop :=
  Row w a (byteCells l) ∧ l.length = n ∧ n ≤ 4096 ∧ (∀ x ∈ l, 0 ≤ x ∧ x ≤ 255) ∧ (∀ p : Addr, a = some p → 0 < n → p.block < g) ∧ k ≤ n ∧ 0 ≤ s ∧ s < 2147483647 ∧
    w.cell? ⟨g, 0, none⟩ = some (.slice a n c) ∧ w.cell? ⟨g, 1, none⟩ = some (.int .i64 k) ∧ w.cell? ⟨g, 2, none⟩ = some (.int .i64 s) ∧ w.frozen? ⟨g, 1, none⟩ = false ∧ w.frozen? ⟨g, 2, none⟩ = false
def SrcOk (w : World) (g : Nat) : Prop := ∃ a n c l k s, SrcAt w g a n c l k s
theorem SrcOk.lt {w : World} {g : Nat} (h : SrcOk w g) : g < w.heap.size := by
  obtain ⟨a, n, c, l, k, s, _, _, _, _, _, _, _, _, h0, _⟩ := h
  exact World.block_lt_of_cell? w _ h0
theorem SrcOk.keep {w w' : World} {g : Nat} (h : SrcOk w g) (hb : ∀ i, i ≤ g → w'.heap[i]? = w.heap[i]?) : SrcOk w' g := by
  obtain ⟨a, n, c, l, k, s, hr, hl, hn, hx, ha, hk, hs0, hs1, h0, h1, h2, f1, f2⟩ := h
  refine ⟨a, n, c, l, k, s, ?_, hl, hn, hx, ha, hk, hs0, hs1, ?_, ?_, ?_, ?_, ?_⟩
  · intro j v hj
    obtain ⟨b, o, rfl, hc⟩ := hr j v hj
    exact ⟨b, o, rfl, (World.cell?_of_block (w := w) (hb b (Nat.le_of_lt (ha _ rfl (by have := (List.getElem?_eq_some_iff.1 hj).1; simp only [byteCells, List.length_map] at this; omega))))).trans hc⟩
  · exact (World.cell?_of_block (w := w) (hb g (Nat.le_refl _))).trans h0
  · exact (World.cell?_of_block (w := w) (hb g (Nat.le_refl _))).trans h1
  · exact (World.cell?_of_block (w := w) (hb g (Nat.le_refl _))).trans h2
  · exact (World.frozen?_of_block (w := w) (hb g (Nat.le_refl _))).trans f1
  · exact (World.frozen?_of_block (w := w) (hb g (Nat.le_refl _))).trans f2
theorem SrcOk.below {w w' : World} {g B : Nat} (h : SrcOk w g) (hb : Below B w w') (hg : g < B) : SrcOk w' g := h.keep fun i hi => hb.block i (by omega)
theorem SrcOk.later {w : World} {g : Nat} (x : Later w) (h : SrcOk w g) : SrcOk x.w g := h.below x.bel h.lt
theorem SrcOk.alloc {w : World} {g : Nat} (h : SrcOk w g) (o : Obj) : SrcOk (w.alloc o) g := h.below ((Below.refl _ _).alloc (Nat.le_refl _) o) h.lt
theorem SrcOk.drew {w : World} {g : Nat} (h : SrcOk w g) : SrcOk w.drew g := h.keep fun _ _ => rfl
theorem SrcOk.drewN {w : World} {g : Nat} (h : SrcOk w g) (n : Nat) : SrcOk (w.drewN n) g := h.keep fun _ _ => rfl
theorem SrcOk.set {w : World} {g : Nat} (h : SrcOk w g) {p : Addr} (hp : g < p.block) (u : Value) : SrcOk (w.setCell p u) g := h.keep fun i hi => Below.heap_setCell w p u i (by omega)
theorem SrcOk.after {w : World} {g lo hi : Nat} (x : After w lo hi) (h : SrcOk w g) (hg : g < lo) : SrcOk x.w g := h.keep fun i hi => x.btw.block i (by have := h.lt; omega) (by omega)
/-- Some number of the range. -/
def RetNum (w : World) (g : Nat) (m : Int) (e : Ending) (w' : World) : Prop :=
  ∃ r : Int, (0 ≤ r ∧ (r < m ∨ r = 0)) ∧ e = .returned (.int .i64 r) ∧ ∃ z : After w g (g + 1), w' = z.w ∧ SrcOk z.w g
theorem RetNum.mk {w w' : World} {g : Nat} {m : Int} {e : Ending} (r : Int) (h0 : 0 ≤ r) (h1 : r < m ∨ r = 0) (he : e = .returned (.int .i64 r)) (hb : Between g (g + 1) w w') (hs : SrcOk w' g) : RetNum w g m e w' := ⟨r, ⟨h0, h1⟩, he, ⟨w', hb⟩, rfl, hs⟩
/-- A new source. -/
def RetSrc (w : World) (e : Ending) (w' : World) : Prop :=
  ∃ g : Nat, w.heap.size ≤ g ∧ e = .returned (.pointer (some ⟨g, 0, none⟩)) ∧ ∃ y : Later w, w' = y.w ∧ SrcOk y.w g
set_option maxHeartbeats 1000000 in
theorem from_any (a : Option Addr) (n c : Nat) (l : List Int) (w : World) (hr : Row w a (byteCells l)) (hl : l.length = n) (hn : n ≤ 4096) (hx : ∀ x ∈ l, 0 ≤ x ∧ x ≤ 255) :
    Calls Tryz.prog 78 #[.slice a n c] w (RetSrc w) := by
  subst hl
  have hr := Lib.hid hr
  have hx := Lib.hid hx
  have ha := Lib.hid (show ∀ p : Addr, a = some p → 0 < l.length → p.block < w.heap.size from fun p hp h0 => by
    obtain ⟨b, o, he, hc⟩ := hr.out 0 _ (byteCells_get h0)
    rw [hp] at he
    injection he with he
    subst he
    exact World.block_lt_of_cell? w _ hc)
  go_enter Tryz.func78, Tryz.ntmps78
  go_wp2_with fail
  go_loopw [4] (fun i wr => ∃ (k : Nat) (s : Int), k ≤ l.length ∧ k ≤ 64 ∧ 0 ≤ s ∧ s < 2147483647 ∧ i = .int .i64 k ∧ wr.cell? ⟨w.heap.size, 0, none⟩ = some (.slice a l.length c) ∧ wr.cell? ⟨w.heap.size, 1, none⟩ = some (.int .i64 0) ∧ wr.cell? ⟨w.heap.size, 2, none⟩ = some (.int .i64 s) ∧
    wr.frozen? ⟨w.heap.size, 1, none⟩ = false ∧ wr.frozen? ⟨w.heap.size, 2, none⟩ = false ∧ Below w.heap.size w wr) (fun i _ => l.length - (intOf i).toNat)
  case atStart =>
    refine ⟨0, 51031, Nat.zero_le _, by omega, by omega, by omega, rfl, ?_, ?_, ?_, ?_, ?_, ?_⟩
    · simp [go_sem, ↓IntWalk.iteOmega]
    · simp [go_sem, ↓IntWalk.iteOmega]
    · simp [go_sem, ↓IntWalk.iteOmega]
    · simp [go_sem, ↓IntWalk.iteOmega]
    · simp [go_sem, ↓IntWalk.iteOmega]
    · (exact bb)
  case round =>
    obtain ⟨k, s, hk, hk6, hs0, hs1, rfl, c0, c1, c2, f1, f2, hb⟩ := hrel
    have hb' := Lib.hid hb
    have hsz := hb.size
    have hgw := World.block_lt_of_cell? wr _ c0
    simp only at hgw
    by_cases hlt : k < l.length
    · by_cases h64 : k < 64
      · obtain ⟨b, o, rfl, hc⟩ := (hr.out.bel hb) k _ (byteCells_get hlt)
        have hx1 := hx.out l[k] (List.getElem_mem hlt)
        have hbb := ha.out _ rfl (by omega)
        simp only at hbb
        obtain ⟨B, hB⟩ : ∃ B, l[k] = B := ⟨_, rfl⟩
        rw [hB] at hc hx1
        have i1 : (k : Int) < (l.length : Int) := by omega
        have i2 : (k : Int) < 64 := by omega
        clear hB hb
        go_wp2_with fail
        go_region
        go_wp2_with fail
        go_roundw
        case rel =>
          refine ⟨k + 1, (s * 73 + B) % 2147483647, by omega, by omega, by omega, by omega, by go_num, ?_, ?_, ?_, ?_, ?_, ?_⟩
          all_goals first | (simp [go_sem, ↓IntWalk.iteOmega, c0, c1, c2, f1, f2, hgw]; done) | (have hb1 := hb'.out; (exact bb))
        case measure => first | (simp [intOf]; done) | (simp [intOf]; omega) | omega
      · have i2 : ¬ (k : Int) < 64 := by omega
        have i1 : (k : Int) < (l.length : Int) := by omega
        clear hb
        go_wp2_with fail
        go_ret
        refine ⟨w.heap.size, Nat.le_refl _, rfl, ⟨_, hb'.out⟩, rfl, a, l.length, c, l, 0, s, hr.out.bel hb'.out, rfl, hn, hx.out, ha.out, Nat.zero_le _, hs0, hs1, c0, c1, c2, f1, f2⟩
    · have i1 : ¬ (k : Int) < (l.length : Int) := by omega
      clear hb
      go_wp2_with fail
      go_ret
      refine ⟨w.heap.size, Nat.le_refl _, rfl, ⟨_, hb'.out⟩, rfl, a, l.length, c, l, 0, s, hr.out.bel hb'.out, rfl, hn, hx.out, ha.out, Nat.zero_le _, hs0, hs1, c0, c1, c2, f1, f2⟩
set_option maxHeartbeats 2000000 in
theorem next_any (g : Nat) (m : Int) (w : World) (h : SrcOk w g) : Calls Tryz.prog 79 #[.pointer (some ⟨g, 0, none⟩), .int .i64 m] w (RetNum w g m) := by
  by_cases hm : m ≤ 1
  · have h' := Lib.hid h
    clear h
    go_enter Tryz.func79, Tryz.ntmps79
    go_wp2_with fail
    go_ret
    exact RetNum.mk 0 (by omega) (.inr rfl) rfl (Between.refl _ _ _) h'.out
  · obtain ⟨a, n, c, l, k, s, hr, hl, hn, hx, ha, hk, hs0, hs1, h0, h1, h2, f1, f2⟩ := h
    subst hl
    have hr := Lib.hid hr
    have hx := Lib.hid hx
    have ha := Lib.hid ha
    have hm' : 1 < m := by omega
    obtain ⟨S, hS⟩ : ∃ S, (s * 48271 + 29) % 2147483647 = S := ⟨_, rfl⟩
    have hS0 : 0 ≤ S := by omega
    have hS1 : S < 2147483647 := by omega
    have hgw := World.block_lt_of_cell? w _ h0
    simp only at hgw
    by_cases hlt : k < l.length
    · obtain ⟨b, o, rfl, hc⟩ := hr.out k _ (byteCells_get hlt)
      have hx1 := hx.out l[k] (List.getElem_mem hlt)
      have hbb := ha.out _ rfl (by omega)
      simp only at hbb
      obtain ⟨B, hB⟩ : ∃ B, l[k] = B := ⟨_, rfl⟩
      rw [hB] at hc hx1
      have i1 : (k : Int) < (l.length : Int) := by omega
      clear hB
      by_cases h256 : m ≤ 256
      · by_cases hev : ((k : Int) + 1) % 2 = 0
        · have e1 : (k : Int) + 1 - 1 = k := by omega
          go_enter Tryz.func79, Tryz.ntmps79
          go_wp2_with fail
          refine wp_region_later (by kernel_rfl) (by kernel_rfl) ?_
          repeat (go_big_quiet_step (fail))
          refine wpQuiet_nil ?_
          rintro _ ⟨xq, rfl⟩
          have hq := xq.bel.size
          (try simp only [World.size_setCell, World.size_drew] at hq)
          go_wp2_with fail
          refine wp_region_later (by kernel_rfl) (by kernel_rfl) ?_
          repeat (go_big_quiet_step (fail))
          refine wpQuiet_nil ?_
          rintro _ ⟨xq, rfl⟩
          have hq := xq.bel.size
          (try simp only [World.size_setCell, World.size_drew] at hq)
          go_wp2_with fail
          refine wp_region_later (by kernel_rfl) (by kernel_rfl) ?_
          repeat (go_big_quiet_step (fail))
          refine wpQuiet_nil ?_
          rintro _ ⟨xq, rfl⟩
          have hq := xq.bel.size
          (try simp only [World.size_setCell, World.size_drew] at hq)
          go_wp2_with fail
          go_ret
          refine RetNum.mk _ (Int.emod_nonneg _ (by omega)) (.inl (Int.emod_lt_of_pos _ (by omega))) rfl ?_ ?_
          · (repeat (first | (with_reducible exact Between.refl _ _ _) | (with_reducible refine Between.drew ?_) | (with_reducible refine Between.drewN ?_ _) | (with_reducible refine Between.set ?_ ?_ ?_ _) | (with_reducible refine btw_later _ ?_) | (with_reducible refine btw_alloc ?_ _) | (with_reducible refine btw_after _ ?_) | (with_reducible assumption) | (dsimp only; omega) | omega))
          · refine ⟨_, _, c, l, k + 1, S, hr.out.btw (lo := g) (hi := g + 1) ?_ fun p hp => .inl (ha.out p hp (by omega)), rfl, hn, hx.out, ha.out, by omega, hS0, hS1, ?_, ?_, ?_, ?_, ?_⟩
            · (repeat (first | (with_reducible exact Between.refl _ _ _) | (with_reducible refine Between.drew ?_) | (with_reducible refine Between.drewN ?_ _) | (with_reducible refine Between.set ?_ ?_ ?_ _) | (with_reducible refine btw_later _ ?_) | (with_reducible refine btw_alloc ?_ _) | (with_reducible refine btw_after _ ?_) | (with_reducible assumption) | (dsimp only; omega) | omega))
            all_goals first | (simp [go_sem, ↓IntWalk.iteOmega, h0, h1, h2, f1, f2, hgw]; done) | (simp [go_sem, ↓IntWalk.iteOmega, h0, h1, h2, f1, f2, hgw]; intro hh; omega)
        · skip
          go_enter Tryz.func79, Tryz.ntmps79
          go_wp2_with fail
          refine wp_region_later (by kernel_rfl) (by kernel_rfl) ?_
          repeat (go_big_quiet_step (fail))
          refine wpQuiet_nil ?_
          rintro _ ⟨xq, rfl⟩
          have hq := xq.bel.size
          (try simp only [World.size_setCell, World.size_drew] at hq)
          go_wp2_with fail
          refine wp_region_later (by kernel_rfl) (by kernel_rfl) ?_
          repeat (go_big_quiet_step (fail))
          refine wpQuiet_nil ?_
          rintro _ ⟨xq, rfl⟩
          have hq := xq.bel.size
          (try simp only [World.size_setCell, World.size_drew] at hq)
          go_wp2_with fail
          go_ret
          refine RetNum.mk _ (Int.emod_nonneg _ (by omega)) (.inl (Int.emod_lt_of_pos _ (by omega))) rfl ?_ ?_
          · (repeat (first | (with_reducible exact Between.refl _ _ _) | (with_reducible refine Between.drew ?_) | (with_reducible refine Between.drewN ?_ _) | (with_reducible refine Between.set ?_ ?_ ?_ _) | (with_reducible refine btw_later _ ?_) | (with_reducible refine btw_alloc ?_ _) | (with_reducible refine btw_after _ ?_) | (with_reducible assumption) | (dsimp only; omega) | omega))
          · refine ⟨_, _, c, l, k + 1, S, hr.out.btw (lo := g) (hi := g + 1) ?_ fun p hp => .inl (ha.out p hp (by omega)), rfl, hn, hx.out, ha.out, by omega, hS0, hS1, ?_, ?_, ?_, ?_, ?_⟩
            · (repeat (first | (with_reducible exact Between.refl _ _ _) | (with_reducible refine Between.drew ?_) | (with_reducible refine Between.drewN ?_ _) | (with_reducible refine Between.set ?_ ?_ ?_ _) | (with_reducible refine btw_later _ ?_) | (with_reducible refine btw_alloc ?_ _) | (with_reducible refine btw_after _ ?_) | (with_reducible assumption) | (dsimp only; omega) | omega))
            all_goals first | (simp [go_sem, ↓IntWalk.iteOmega, h0, h1, h2, f1, f2, hgw]; done) | (simp [go_sem, ↓IntWalk.iteOmega, h0, h1, h2, f1, f2, hgw]; intro hh; omega)
      · skip
        go_enter Tryz.func79, Tryz.ntmps79
        go_wp2_with fail
        refine wp_region_later (by kernel_rfl) (by kernel_rfl) ?_
        repeat (go_big_quiet_step (fail))
        refine wpQuiet_nil ?_
        rintro _ ⟨xq, rfl⟩
        have hq := xq.bel.size
        (try simp only [World.size_setCell, World.size_drew] at hq)
        go_wp2_with fail
        refine wp_region_later (by kernel_rfl) (by kernel_rfl) ?_
        repeat (go_big_quiet_step (fail))
        refine wpQuiet_nil ?_
        rintro _ ⟨xq, rfl⟩
        have hq := xq.bel.size
        (try simp only [World.size_setCell, World.size_drew] at hq)
        go_wp2_with fail
        go_ret
        refine RetNum.mk _ (Int.emod_nonneg _ (by omega)) (.inl (Int.emod_lt_of_pos _ (by omega))) rfl ?_ ?_
        · (repeat (first | (with_reducible exact Between.refl _ _ _) | (with_reducible refine Between.drew ?_) | (with_reducible refine Between.drewN ?_ _) | (with_reducible refine Between.set ?_ ?_ ?_ _) | (with_reducible refine btw_later _ ?_) | (with_reducible refine btw_alloc ?_ _) | (with_reducible refine btw_after _ ?_) | (with_reducible assumption) | (dsimp only; omega) | omega))
        · refine ⟨_, _, c, l, k + 1, S, hr.out.btw (lo := g) (hi := g + 1) ?_ fun p hp => .inl (ha.out p hp (by omega)), rfl, hn, hx.out, ha.out, by omega, hS0, hS1, ?_, ?_, ?_, ?_, ?_⟩
          · (repeat (first | (with_reducible exact Between.refl _ _ _) | (with_reducible refine Between.drew ?_) | (with_reducible refine Between.drewN ?_ _) | (with_reducible refine Between.set ?_ ?_ ?_ _) | (with_reducible refine btw_later _ ?_) | (with_reducible refine btw_alloc ?_ _) | (with_reducible refine btw_after _ ?_) | (with_reducible assumption) | (dsimp only; omega) | omega))
          all_goals first | (simp [go_sem, ↓IntWalk.iteOmega, h0, h1, h2, f1, f2, hgw]; done) | (simp [go_sem, ↓IntWalk.iteOmega, h0, h1, h2, f1, f2, hgw]; intro hh; omega)
    · have i1 : ¬ (k : Int) < (l.length : Int) := by omega
      go_enter Tryz.func79, Tryz.ntmps79
      go_wp2_with fail
      refine wp_region_later (by kernel_rfl) (by kernel_rfl) ?_
      repeat (go_big_quiet_step (fail))
      refine wpQuiet_nil ?_
      rintro _ ⟨xq, rfl⟩
      have hq := xq.bel.size
      (try simp only [World.size_setCell, World.size_drew] at hq)
      go_wp2_with fail
      go_ret
      refine RetNum.mk _ (Int.emod_nonneg _ (by omega)) (.inl (Int.emod_lt_of_pos _ (by omega))) rfl ?_ ?_
      · (repeat (first | (with_reducible exact Between.refl _ _ _) | (with_reducible refine Between.drew ?_) | (with_reducible refine Between.drewN ?_ _) | (with_reducible refine Between.set ?_ ?_ ?_ _) | (with_reducible refine btw_later _ ?_) | (with_reducible refine btw_alloc ?_ _) | (with_reducible refine btw_after _ ?_) | (with_reducible assumption) | (dsimp only; omega) | omega))
      · refine ⟨a, l.length, c, l, k, S, ?_, rfl, hn, hx.out, ha.out, hk, hS0, hS1, ?_, ?_, ?_, ?_, ?_⟩
        · rcases Nat.eq_zero_or_pos l.length with hl0 | hl0
          · have : l = [] := List.eq_nil_of_length_eq_zero hl0
            subst this
            exact Row.nil _ _
          · refine hr.out.btw (lo := g) (hi := g + 1) ?_ fun p hp => .inl (ha.out p hp hl0)
            (repeat (first | (with_reducible exact Between.refl _ _ _) | (with_reducible refine Between.drew ?_) | (with_reducible refine Between.drewN ?_ _) | (with_reducible refine Between.set ?_ ?_ ?_ _) | (with_reducible refine btw_later _ ?_) | (with_reducible refine btw_alloc ?_ _) | (with_reducible refine btw_after _ ?_) | (with_reducible assumption) | (dsimp only; omega) | omega))
        all_goals first | (simp [go_sem, ↓IntWalk.iteOmega, h0, h1, h2, f1, f2, hgw]; done) | (simp [go_sem, ↓IntWalk.iteOmega, h0, h1, h2, f1, f2, hgw]; intro hh; omega)
/-- One of some numbers. -/
def RetPick (w : World) (g : Nat) (l : List Int) (e : Ending) (w' : World) : Prop :=
  ∃ v : Int, v ∈ l ∧ e = .returned (.int .i64 v) ∧ ∃ z : After w g (g + 1), w' = z.w ∧ SrcOk z.w g
set_option maxHeartbeats 1000000 in
theorem pick_any (g : Nat) (l : List Int) (a : Option Addr) (n c : Nat) (w : World) (h : SrcOk w g) (hl : l.length = n) (h0 : 0 < n) (hn : n ≤ 1000) (hr : Row w a (intCells l)) (ha : ∀ p : Addr, a = some p → p.block ≠ g) :
    Calls Tryz.prog 133 #[.pointer (some ⟨g, 0, none⟩), .slice a n c] w (RetPick w g l) := by
  subst hl
  have hg := h.lt
  have H0 := Lib.hid h
  replace hr := Lib.hid hr
  replace ha := Lib.hid ha
  clear h
  go_enter Tryz.func133, Tryz.ntmps133
  go_wp2_with fail
  with_reducible refine (next_any g _ _ (by (repeat (first | (with_reducible exact H0.out) | (with_reducible refine SrcOk.alloc ?_ _) | (with_reducible refine SrcOk.set ?_ ?_ _) | (with_reducible refine SrcOk.drewN ?_ _) | (with_reducible refine SrcOk.drew ?_) | (with_reducible refine SrcOk.later _ ?_) | (with_reducible refine SrcOk.after _ ?_ ?_) | (dsimp only; omega) | omega | ((try simp only [World.size_alloc, World.size_setCell, World.size_drew]); omega))))).mono ?_
  rintro e w' ⟨r, hdraw, rfl, z, rfl, hsrc⟩
  have hsz := z.btw.size
  (try simp only [World.size_alloc, World.size_setCell, World.size_drew] at hsz)
  have H1 := Lib.hid hsrc
  clear hsrc
  obtain ⟨r0, r1⟩ := hdraw
  obtain ⟨k, rfl⟩ : ∃ k : Nat, r = k := ⟨r.toNat, by omega⟩
  have hk : k < l.length := by omega
  obtain ⟨b, o, rfl, hc⟩ := (hr.out.btw z.btw fun p hp => by have := ha.out p hp; omega) k _ (intCells_get hk)
  have hm := List.getElem_mem hk
  obtain ⟨V, hV⟩ : ∃ V, l[k] = V := ⟨_, rfl⟩
  rw [hV] at hc hm
  have i1 : (k : Int) < (l.length : Int) := by omega
  replace hm := Lib.hid hm
  clear hV
  go_wp2_with fail
  go_ret
  exact ⟨V, hm.out, rfl, z, rfl, H1.out⟩
end Go.Proofs.YtklcaphkfdlipaaGreatDoor
