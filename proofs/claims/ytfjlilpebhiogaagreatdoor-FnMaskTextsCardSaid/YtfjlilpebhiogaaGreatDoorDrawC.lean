import Derived.Test.YtfjlilpebhiogaaGreatDoorDrawS
import Derived.Test.YtfjlilpebhiogaaGreatDoorInv
import Derived.Test.YtfjlilpebhiogaaGreatDoorPackAa
/- The draws of claims: some claim, whatever it is, with short texts and small numbers. -/
set_option linter.unusedSimpArgs false
set_option linter.unusedVariables false
namespace Go.Proofs.YtfjlilpebhiogaaGreatDoor
open Go.RowKit
/-- Short texts, small years. -/
def OkC (c : Clm) : Prop := c.src.size ≤ 100 ∧ c.place.size ≤ 100 ∧ c.val.size ≤ 100 ∧ -100000 ≤ c.fr ∧ c.fr ≤ 100000
def StrBlk (w : World) (b n : Nat) : Prop := ∃ (cs : Array Value) (fr : Nat × Nat), w.heap[b]? = some (.cells cs 9 fr) ∧ cs.size = n ∧ ∀ (i : Nat) (v : Value), cs[i]? = some v → ∃ s : ByteArray, v = .string s ∧ s.size ≤ 100
def IntBlk (w : World) (b : Nat) (l : List Int) : Prop := ∃ fr : Nat × Nat, w.heap[b]? = some (.cells (intCells l).toArray 2 fr)
def ClmRaw (w : World) (b : Nat) : Prop := ∃ cs : Array Value, w.heap[b]? = some (.cells cs 27 (0, 0)) ∧ cs.size = 7
def GoodBlk (w : World) (b : Nat) : Prop := ∃ c : Clm, OkC c ∧ w.heap[b]? = some (.cells (clmCells c).toArray 27 (0, 0))
theorem lt_of_heap {w : World} {b : Nat} {o : Obj} (h : w.heap[b]? = some o) : b < w.heap.size := (Array.getElem?_eq_some_iff.1 h).1
theorem GoodBlk.raw {w : World} {b : Nat} (h : GoodBlk w b) : ClmRaw w b := by
  obtain ⟨c, _, h⟩ := h
  exact ⟨_, h, rfl⟩
/-- How the world may turn: the source, and claims' blocks that become good. -/
def Ev (g : Nat) (w w' : World) : Prop := ∀ i, i < w.heap.size → i ≠ g → (w'.heap[i]? = w.heap[i]? ∨ (ClmRaw w i ∧ GoodBlk w' i))
theorem Ev.refl (g : Nat) (w : World) : Ev g w w := fun _ _ _ => .inl rfl
theorem Ev.after {g : Nat} {w : World} (z : After w g (g + 1)) : Ev g w z.w := fun i hi hne => .inl (z.btw.block i hi (by omega))
theorem Ev.alloc (g : Nat) (w : World) (o : Obj) : Ev g w (w.alloc o) := fun i hi _ => .inl (Below.heap_alloc w o i hi)
theorem StrBlk.ev {g : Nat} {w w' : World} {b n : Nat} (h : StrBlk w b n) (hE : Ev g w w') (hb : b ≠ g) : StrBlk w' b n := by
  obtain ⟨cs, fr, h1, h2, h3⟩ := h
  rcases hE b (lt_of_heap h1) hb with h4 | ⟨⟨cs', h4, _⟩, _⟩
  · exact ⟨cs, fr, h4.trans h1, h2, h3⟩
  · rw [h1] at h4
    cases h4
theorem IntBlk.ev {g : Nat} {w w' : World} {b : Nat} {l : List Int} (h : IntBlk w b l) (hE : Ev g w w') (hb : b ≠ g) : IntBlk w' b l := by
  obtain ⟨fr, h1⟩ := h
  rcases hE b (lt_of_heap h1) hb with h4 | ⟨⟨cs', h4, _⟩, _⟩
  · exact ⟨fr, h4.trans h1⟩
  · rw [h1] at h4
    cases h4
theorem ClmRaw.ev {g : Nat} {w w' : World} {b : Nat} (h : ClmRaw w b) (hE : Ev g w w') (hb : b ≠ g) : ClmRaw w' b := by
  obtain ⟨cs, h1, h2⟩ := h
  rcases hE b (lt_of_heap h1) hb with h4 | ⟨_, h4⟩
  · exact ⟨cs, h4.trans h1, h2⟩
  · exact h4.raw
theorem GoodBlk.ev {g : Nat} {w w' : World} {b : Nat} (h : GoodBlk w b) (hE : Ev g w w') (hb : b ≠ g) : GoodBlk w' b := by
  obtain ⟨c, h1, h2⟩ := h
  rcases hE b (lt_of_heap h2) hb with h4 | ⟨_, h4⟩
  · exact ⟨c, h1, h4.trans h2⟩
  · exact h4
theorem StrBlk.row {w : World} {b n : Nat} (h : StrBlk w b n) {i : Nat} (hi : i < n) : ∃ s : ByteArray, w.cell? ⟨b, i, none⟩ = some (.string s) ∧ s.size ≤ 100 := by
  obtain ⟨cs, fr, h1, h2, h3⟩ := h
  obtain ⟨s, hs, hz⟩ := h3 i _ (Array.getElem?_eq_getElem (by omega))
  exact ⟨s, by simp [World.cell?, h1, ← hs], hz⟩
def smallV : Value → Bool
  | .string s => decide (s.size ≤ 100)
  | _ => false
theorem smallV_of {v : Value} (h : smallV v = true) : ∃ s : ByteArray, v = .string s ∧ s.size ≤ 100 := by
  cases v <;> simp [smallV] at h
  exact ⟨_, rfl, h⟩
theorem StrBlk.of {w : World} {b n : Nat} {cs : Array Value} {fr : Nat × Nat} (h : w.heap[b]? = some (.cells cs 9 fr)) (hn : cs.size = n) (hs : cs.toList.all smallV = true) : StrBlk w b n :=
  ⟨cs, fr, h, hn, fun i v hi => smallV_of (List.all_eq_true.1 hs v (by
    have := Array.getElem?_toList (xs := cs) (i := i)
    rw [hi] at this
    exact List.mem_of_getElem? this))⟩
theorem IntBlk.row {w : World} {b : Nat} {l : List Int} (h : IntBlk w b l) : Row w (some ⟨b, 0, none⟩) (intCells l) := by
  obtain ⟨fr, h1⟩ := h
  exact Row.at_block h1 fun j v hj => by simpa using hj
theorem ClmRaw.cells {w : World} {b : Nat} (h : ClmRaw w b) {i : Nat} (hi : i < 7) : ∃ v, w.cell? ⟨b, i, none⟩ = some v := by
  obtain ⟨cs, h1, h2⟩ := h
  exact ⟨cs[i]'(by omega), by simp [World.cell?, h1]⟩
theorem ClmRaw.free {w : World} {b : Nat} (h : ClmRaw w b) (i : Nat) : w.frozen? ⟨b, i, none⟩ = false := by
  obtain ⟨cs, h1, h2⟩ := h
  simp [World.frozen?, h1]
theorem heap_set {w : World} {b i : Nat} {cs : Array Value} {e : TypeId} {fr : Nat × Nat} (h : w.heap[b]? = some (.cells cs e fr)) (v : Value) : (w.setCell ⟨b, i, none⟩ v).heap[b]? = some (.cells (cs.setIfInBounds i v) e fr) := by
  simp [World.setCell, Array.getElem?_modify, h]
theorem ClmRaw.stored {w : World} {b : Nat} (h : ClmRaw w b) (c : Clm) :
    (((((((w.setCell ⟨b, 0, none⟩ (.string c.src)).setCell ⟨b, 1, none⟩ (.int .i64 c.kind)).setCell ⟨b, 2, none⟩ (.string c.place)).setCell ⟨b, 3, none⟩ (.string c.val)).setCell ⟨b, 4, none⟩ (.int .i64 c.fr)).setCell ⟨b, 5, none⟩ (.int .i64 c.to)).setCell ⟨b, 6, none⟩ (.int .i64 c.wt)).heap[b]? = some (.cells (clmCells c).toArray 27 (0, 0)) := by
  obtain ⟨cs, h1, h2⟩ := h
  have k0 := heap_set (i := 0) h1 (.string c.src)
  have k1 := heap_set (i := 1) k0 (.int .i64 c.kind)
  have k2 := heap_set (i := 2) k1 (.string c.place)
  have k3 := heap_set (i := 3) k2 (.string c.val)
  have k4 := heap_set (i := 4) k3 (.int .i64 c.fr)
  have k5 := heap_set (i := 5) k4 (.int .i64 c.to)
  have k6 := heap_set (i := 6) k5 (.int .i64 c.wt)
  rw [k6]
  clear k0 k1 k2 k3 k4 k5 k6 h1
  have e : ∀ (a0 a1 a2 a3 a4 a5 a6 v0 v1 v2 v3 v4 v5 v6 : Value), ((((((([a0, a1, a2, a3, a4, a5, a6].toArray.setIfInBounds 0 v0).setIfInBounds 1 v1).setIfInBounds 2 v2).setIfInBounds 3 v3).setIfInBounds 4 v4).setIfInBounds 5 v5).setIfInBounds 6 v6) = [v0, v1, v2, v3, v4, v5, v6].toArray := by
    intros
    simp only [List.setIfInBounds_toArray, List.set_cons_zero, List.set_cons_succ]
  obtain ⟨l, rfl⟩ : ∃ l : List Value, cs = l.toArray := ⟨cs.toList, by simp⟩
  have hl : l.length = 7 := by simpa using h2
  clear h2
  cases l with
  | nil => simp at hl
  | cons a0 l => cases l with
    | nil => simp at hl
    | cons a1 l => cases l with
      | nil => simp at hl
      | cons a2 l => cases l with
        | nil => simp at hl
        | cons a3 l => cases l with
          | nil => simp at hl
          | cons a4 l => cases l with
            | nil => simp at hl
            | cons a5 l => cases l with
              | nil => simp at hl
              | cons a6 l => cases l with
                | nil => rw [e]; rfl
                | cons a7 l => simp at hl
abbrev storeC (w : World) (b : Nat) (c : Clm) : World :=
  ((((((w.setCell ⟨b, 0, none⟩ (.string c.src)).setCell ⟨b, 1, none⟩ (.int .i64 c.kind)).setCell ⟨b, 2, none⟩ (.string c.place)).setCell ⟨b, 3, none⟩ (.string c.val)).setCell ⟨b, 4, none⟩ (.int .i64 c.fr)).setCell ⟨b, 5, none⟩ (.int .i64 c.to)).setCell ⟨b, 6, none⟩ (.int .i64 c.wt)
theorem Ev.store {g : Nat} {w : World} {b : Nat} {c : Clm} (h : ClmRaw w b) (hc : OkC c) : Ev g w (storeC w b c) := by
  intro i hi hne
  by_cases e : i = b
  · subst e
    exact .inr ⟨h, c, hc, h.stored c⟩
  · left
    unfold storeC
    rw [Below.heap_setCell _ _ _ _ e, Below.heap_setCell _ _ _ _ e, Below.heap_setCell _ _ _ _ e, Below.heap_setCell _ _ _ _ e, Below.heap_setCell _ _ _ _ e, Below.heap_setCell _ _ _ _ e, Below.heap_setCell _ _ _ _ e]
/-- A world in which only the blocks g and b have turned, and a cell of b is as it was. -/
structure Link (W : World) (g b o : Nat) where
  w : World
  but : But g b W w
  keep : w.cell? ⟨b, o, none⟩ = W.cell? ⟨b, o, none⟩
instance (W : World) (g b o : Nat) : Nonempty (Link W g b o) := ⟨⟨W, But.refl _ _ _, rfl⟩⟩
@[irreducible] def Link.far {W : World} {g b o : Nat} (x : Link W g b o) (a : Addr) : Option Value := x.w.cell? a
theorem Link.cell {W : World} {g b o : Nat} (x : Link W g b o) (b' o' : Nat) : x.w.cell? ⟨b', o', none⟩ = if b' = b then (if o' = o then W.cell? ⟨b', o', none⟩ else x.far ⟨b', o', none⟩) else x.far ⟨b', o', none⟩ := by
  split
  · rename_i h1
    split
    · rename_i h2
      subst h1 h2
      exact x.keep
    · unfold Link.far; rfl
  · unfold Link.far; rfl
attribute [go_sem] Link.cell
def LinkC (g b o : Nat) (W w' : World) : Prop := ∃ x : Link W g b o, w' = x.w
attribute [go_sem] LinkC
theorem LinkC.mk {g b o : Nat} {W w' : World} (h : But g b W w' ∧ w'.cell? ⟨b, o, none⟩ = W.cell? ⟨b, o, none⟩) : LinkC g b o W w' := ⟨⟨w', h.1, h.2⟩, rfl⟩
/-- The worlds of a draw. -/
def SrcC (W : World) (g : Nat) (w' : World) : Prop := ∃ y : After W g (g + 1), w' = y.w ∧ SrcOk y.w g
theorem SrcC.mk {W : World} {g : Nat} {w' : World} (h : Between g (g + 1) W w') (hs : SrcOk w' g) : SrcC W g w' := ⟨⟨w', h⟩, rfl, hs⟩
def RetClmD (w : World) (g : Nat) (e : Ending) (w' : World) : Prop :=
  ∃ c : Clm, OkC c ∧ e = .returned (clmV c) ∧ ∃ z : After w g (g + 1), w' = z.w ∧ SrcOk z.w g
theorem RetClmD.mk {w w' : World} {g : Nat} {e : Ending} {c : Clm} (hc : OkC c) (he : e = .returned (clmV c)) (hb : Between g (g + 1) w w') (hs : SrcOk w' g) : RetClmD w g e w' := ⟨c, hc, he, ⟨w', hb⟩, rfl, hs⟩
end Go.Proofs.YtfjlilpebhiogaaGreatDoor
