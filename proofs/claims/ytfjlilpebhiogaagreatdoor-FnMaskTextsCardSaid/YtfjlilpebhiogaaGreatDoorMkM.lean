import Derived.Test.YtfjlilpebhiogaaGreatDoorTwo
import Derived.Test.YtfjlilpebhiogaaGreatDoorInv
/- A mask made in a drawn region. -/
set_option linter.unusedSimpArgs false
set_option linter.unusedVariables false
namespace Go.Proofs.YtfjlilpebhiogaaGreatDoor
open Go.RowKit
def RawM (w : World) (b : Nat) : Prop := ∃ cs : Array Value, w.heap[b]? = some (.cells cs 39 (0, 0)) ∧ cs.size = 5
def GoodM (w : World) (b : Nat) (x y W H : Int) (v : Value) : Prop := w.heap[b]? = some (.cells [.int .i64 x, .int .i64 y, .int .i64 W, .int .i64 H, v].toArray 39 (0, 0))
theorem lt_of_heapM {w : World} {b : Nat} {o : Obj} (h : w.heap[b]? = some o) : b < w.heap.size := (Array.getElem?_eq_some_iff.1 h).1
theorem GoodM.raw {w : World} {b : Nat} {x y W H : Int} {v : Value} (h : GoodM w b x y W H v) : RawM w b := ⟨_, h, rfl⟩
theorem GoodM.maskAt {w : World} {b : Nat} {x y W H : Int} {v : Value} (h : GoodM w b x y W H v) : MaskAt w b x y W H v ∧ ∀ i, w.frozen? ⟨b, i, none⟩ = false := by
  unfold GoodM at h
  refine ⟨⟨?_, ?_, ?_, ?_, ?_⟩, fun i => ?_⟩ <;> simp [World.cell?, World.frozen?, h]
/-- How a world turns: masks' blocks that are filled with these values. -/
def EvM (P : Value → Prop) (x y W H : Int) (w w' : World) : Prop := ∀ i, i < w.heap.size → (w'.heap[i]? = w.heap[i]? ∨ (RawM w i ∧ ∃ v, P v ∧ GoodM w' i x y W H v))
section
variable {P : Value → Prop} {x y W H : Int}
theorem EvM.refl (w : World) : EvM P x y W H w w := fun _ _ => .inl rfl
theorem EvM.alloc (w : World) (o : Obj) : EvM P x y W H w (w.alloc o) := fun i hi => .inl (Below.heap_alloc w o i hi)
theorem EvM.later {w : World} (z : Later w) : EvM P x y W H w z.w := fun i hi => .inl (z.bel.block i hi)
theorem RawM.ev {w w' : World} {b : Nat} (h : RawM w b) (hE : EvM P x y W H w w') : RawM w' b := by
  obtain ⟨cs, h1, h2⟩ := h
  rcases hE b (lt_of_heapM h1) with h4 | ⟨_, v, _, h4⟩
  · exact ⟨cs, h4.trans h1, h2⟩
  · exact h4.raw
theorem GoodM.ev {w w' : World} {b : Nat} {v : Value} (h : GoodM w b x y W H v) (hv : P v) (hE : EvM P x y W H w w') : ∃ v, P v ∧ GoodM w' b x y W H v := by
  rcases hE b (lt_of_heapM h) with h4 | ⟨_, v, hv, h4⟩
  · exact ⟨v, hv, h4.trans h⟩
  · exact ⟨v, hv, h4⟩
end
theorem RawM.cells {w : World} {b : Nat} (h : RawM w b) {i : Nat} (hi : i < 5) : ∃ v, w.cell? ⟨b, i, none⟩ = some v := by
  obtain ⟨cs, h1, h2⟩ := h
  exact ⟨cs[i]'(by omega), by simp [World.cell?, h1]⟩
theorem RawM.free {w : World} {b : Nat} (h : RawM w b) (i : Nat) : w.frozen? ⟨b, i, none⟩ = false := by
  obtain ⟨cs, h1, h2⟩ := h
  simp [World.frozen?, h1]
theorem heap_setM {w : World} {b i : Nat} {cs : Array Value} {e : TypeId} {fr : Nat × Nat} (h : w.heap[b]? = some (.cells cs e fr)) (v : Value) : (w.setCell ⟨b, i, none⟩ v).heap[b]? = some (.cells (cs.setIfInBounds i v) e fr) := by
  simp [World.setCell, Array.getElem?_modify, h]
theorem RawM.stored {w : World} {b : Nat} (h : RawM w b) (x y W H : Int) (v : Value) :
    GoodM (((((w.setCell ⟨b, 0, none⟩ (.int .i64 x)).setCell ⟨b, 1, none⟩ (.int .i64 y)).setCell ⟨b, 2, none⟩ (.int .i64 W)).setCell ⟨b, 3, none⟩ (.int .i64 H)).setCell ⟨b, 4, none⟩ v) b x y W H v := by
  obtain ⟨cs, h1, h2⟩ := h
  have k0 := heap_setM (i := 0) h1 (.int .i64 x)
  have k1 := heap_setM (i := 1) k0 (.int .i64 y)
  have k2 := heap_setM (i := 2) k1 (.int .i64 W)
  have k3 := heap_setM (i := 3) k2 (.int .i64 H)
  have k4 := heap_setM (i := 4) k3 v
  unfold GoodM
  rw [k4]
  clear k0 k1 k2 k3 k4 h1
  have e : ∀ (a0 a1 a2 a3 a4 v0 v1 v2 v3 v4 : Value), ((((([a0, a1, a2, a3, a4].toArray.setIfInBounds 0 v0).setIfInBounds 1 v1).setIfInBounds 2 v2).setIfInBounds 3 v3).setIfInBounds 4 v4) = [v0, v1, v2, v3, v4].toArray := by
    intros
    simp only [List.setIfInBounds_toArray, List.set_cons_zero, List.set_cons_succ]
  obtain ⟨l, rfl⟩ : ∃ l : List Value, cs = l.toArray := ⟨cs.toList, by simp⟩
  have hl : l.length = 5 := by simpa using h2
  clear h2
  cases l with
  | nil => simp at hl
  | cons a0 l => cases l with
    | nil => simp at hl
    | cons a1 l => cases l with
      | nil => simp at hl
      | cons a2 l => cases l with
        | nil => simp at hl
        | cons a3 l => cases l with
          | nil => simp at hl
          | cons a4 l => cases l with
            | nil => exact congrArg (fun a => some (Obj.cells a 39 (0, 0))) (e a0 a1 a2 a3 a4 (.int .i64 x) (.int .i64 y) (.int .i64 W) (.int .i64 H) v)
            | cons a5 l => simp at hl
abbrev storeM (w : World) (b : Nat) (x y W H : Int) (v : Value) : World :=
  ((((w.setCell ⟨b, 0, none⟩ (.int .i64 x)).setCell ⟨b, 1, none⟩ (.int .i64 y)).setCell ⟨b, 2, none⟩ (.int .i64 W)).setCell ⟨b, 3, none⟩ (.int .i64 H)).setCell ⟨b, 4, none⟩ v
theorem storeM_other {w : World} {b i : Nat} (hne : i ≠ b) (x y W H : Int) (v : Value) : (storeM w b x y W H v).heap[i]? = w.heap[i]? := by
  unfold storeM
  rw [Below.heap_setCell _ _ _ _ hne, Below.heap_setCell _ _ _ _ hne, Below.heap_setCell _ _ _ _ hne, Below.heap_setCell _ _ _ _ hne, Below.heap_setCell _ _ _ _ hne]
theorem EvM.store {P : Value → Prop} {w : World} {b : Nat} (h : RawM w b) (x y W H : Int) (v : Value) (hv : P v) : EvM P x y W H w (storeM w b x y W H v) := by
  intro i hi
  by_cases e : i = b
  · subst e
    exact .inr ⟨h, v, hv, h.stored x y W H v⟩
  · exact .inl (storeM_other e x y W H v)
theorem bel_storeM {B : Nat} {a w : World} (h : Below B a w) {b : Nat} (hb : B ≤ b) (x y W H : Int) (v : Value) : Below B a (storeM w b x y W H v) :=
  ((((h.setCell (p := ⟨b, 0, none⟩) hb _).setCell (p := ⟨b, 1, none⟩) hb _).setCell (p := ⟨b, 2, none⟩) hb _).setCell (p := ⟨b, 3, none⟩) hb _).setCell (p := ⟨b, 4, none⟩) hb _
end Go.Proofs.YtfjlilpebhiogaaGreatDoor
