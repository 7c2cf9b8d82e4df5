import Derived.Test.YtfjlilpebhiogaaGreatDoorDrawS
import Derived.Test.YtfjlilpebhiogaaGreatDoorInv
import Derived.Test.YtfjlilpebhiogaaGreatDoorPackAa
/- The draws of claims: some claim, whatever it is, with short texts and small numbers. -/
set_option linter.unusedSimpArgs false
set_option linter.unusedVariables false
namespace Go.Proofs.YtfjlilpebhiogaaGreatDoor
open Go.RowKit
/-- Short texts, small years. -/
def OkC (c : Clm) : Prop := c.src.size ≤ 100 ∧ c.place.size ≤ 100 ∧ c.val.size ≤ 100 ∧ -100000 ≤ c.fr ∧ c.fr ≤ 100000
def StrBlk (w : World) (b n : Nat) : Prop := ∃ (cs : Array Value) (fr : Nat × Nat), w.heap[b]? = some (.cells cs 9 fr) ∧ cs.size = n ∧ ∀ (i : Nat) (v : Value), cs[i]? = some v → ∃ s : ByteArray, v = .string s ∧ s.size ≤ 100
def IntBlk (w : World) (b : Nat) (l : List Int) : Prop := ∃ fr : Nat × Nat, w.heap[b]? = some (.cells (intCells l).toArray 2 fr)
def ClmRaw (w : World) (b : Nat) : Prop := ∃ cs : Array Value, w.heap[b]? = some (.cells cs 27 (0, 0)) ∧ cs.size = 7
def GoodBlk (w : World) (b : Nat) : Prop := ∃ c : Clm, OkC c ∧ w.heap[b]? = some (.cells (clmCells c).toArray 27 (0, 0))
theorem lt_of_heap {w : World} {b : Nat} {o : Obj} (h : w.heap[b]? = some o) : b < w.heap.size := (Array.getElem?_eq_some_iff.1 h).1
theorem GoodBlk.raw {w : World} {b : Nat} (h : GoodBlk w b) : ClmRaw w b := by
  obtain ⟨c, _, h⟩ := h
  exact ⟨_, h, rfl⟩
/-- How the world may turn: the source, and claims' blocks that become good. -/
def Ev (g : Nat) (w w' : World) : Prop := ∀ i, i < w.heap.size → i ≠ g → (w'.heap[i]? = w.heap[i]? ∨ (ClmRaw w i ∧ GoodBlk w' i))
theorem Ev.refl (g : Nat) (w : World) : Ev g w w := fun _ _ _ => .inl rfl
theorem Ev.after {g : Nat} {w : World} (z : After w g (g + 1)) : Ev g w z.w := fun i hi hne => .inl (z.btw.block i hi (by omega))
theorem Ev.alloc (g : Nat) (w : World) (o : Obj) : Ev g w (w.alloc o) := fun i hi _ => .inl (Below.heap_alloc w o i hi)
theorem StrBlk.ev {g : Nat} {w w' : World} {b n : Nat} (h : StrBlk w b n) (hE : Ev g w w') (hb : b ≠ g) : StrBlk w' b n := by
  obtain ⟨cs, fr, h1, h2, h3⟩ := h
  rcases hE b (lt_of_heap h1) hb with h4 | ⟨⟨cs', h4, _⟩, _⟩
  · exact ⟨cs, fr, h4.trans h1, h2, h3⟩
  · rw [h1] at h4
    cases h4
theorem IntBlk.ev {g : Nat} {w w' : World} {b : Nat} {l : List Int} (h : IntBlk w b l) (hE : Ev g w w') (hb : b ≠ g) : IntBlk w' b l := by
  obtain ⟨fr, h1⟩ := h
  rcases hE b (lt_of_heap h1) hb with h4 | ⟨⟨cs', h4, _⟩, _⟩
  · exact ⟨fr, h4.trans h1⟩
  · rw [h1] at h4
    cases h4
theorem ClmRaw.ev {g : Nat} {w w' : World} {b : Nat} (h : ClmRaw w b) (hE : Ev g w w') (hb : b ≠ g) : ClmRaw w' b := by
  obtain ⟨cs, h1, h2⟩ := h
  rcases hE b (lt_of_heap h1) hb with h4 | ⟨_, h4⟩
  · exact ⟨cs, h4.trans h1, h2⟩
  · exact h4.raw
theorem GoodBlk.ev {g : Nat} {w w' : World} {b : Nat} (h : GoodBlk w b) (hE : Ev g w w') (hb : b ≠ g) : GoodBlk w' b := by
  obtain ⟨c, h1, h2⟩ := h
  rcases hE b (lt_of_heap h2) hb with h4 | ⟨_, h4⟩
  · exact ⟨c, h1, h4.trans h2⟩
  · exact h4
theorem StrBlk.row {w : World} {b n : Nat} (h : StrBlk w b n) {i : Nat} (hi : i < n) : ∃ s : ByteArray, w.cell? ⟨b, i, none⟩ = some (.string s) ∧ s.size ≤ 100 := by
  obtain ⟨cs, fr, h1, h2, h3⟩ := h
  obtain ⟨s, hs, hz⟩ := h3 i _ (Array.getElem?_eq_getElem (by omega))
  exact ⟨s, by simp [World.cell?, h1, ← hs], hz⟩
def smallV : Value → Bool
  | .string s => decide (s.size ≤ 100)
  | _ => false
theorem smallV_of {v : Value} (h : smallV v = true) : ∃ s : ByteArray, v = .string s ∧ s.size ≤ 100 := by
  cases v <;> simp [smallV] at h
  exact ⟨_, rfl, h⟩
theorem StrBlk.of {w : World} {b n : Nat} {cs : Array Value} {fr : Nat × Nat} (h : w.heap[b]? = some (.cells cs 9 fr)) (hn : cs.size = n) (hs : cs.toList.all smallV = true) : StrBlk w b n :=
  ⟨cs, fr, h, hn, fun i v hi => smallV_of (List.all_eq_true.1 hs v (by
    have := Array.getElem?_toList (xs := cs) (i := i)
    rw [hi] at this
    exact List.mem_of_getElem? this))⟩
theorem heap_two (w : World) (o1 o2 : Obj) : ((w.alloc o1).alloc o2).heap[w.heap.size + 1]? = some o2 := by
  have := heap_alloc_new (w.alloc o1) o2
  rwa [World.size_alloc] at this
theorem IntBlk.row {w : World} {b : Nat} {l : List Int} (h : IntBlk w b l) : Row w (some ⟨b, 0, none⟩) (intCells l) := by
  obtain ⟨fr, h1⟩ := h
  exact Row.at_block h1 fun j v hj => by simpa using hj
theorem ClmRaw.cells {w : World} {b : Nat} (h : ClmRaw w b) {i : Nat} (hi : i < 7) : ∃ v, w.cell? ⟨b, i, none⟩ = some v := by
  obtain ⟨cs, h1, h2⟩ := h
  exact ⟨cs[i]'(by omega), by simp [World.cell?, h1]⟩
theorem ClmRaw.free {w : World} {b : Nat} (h : ClmRaw w b) (i : Nat) : w.frozen? ⟨b, i, none⟩ = false := by
  obtain ⟨cs, h1, h2⟩ := h
  simp [World.frozen?, h1]
theorem heap_set {w : World} {b i : Nat} {cs : Array Value} {e : TypeId} {fr : Nat × Nat} (h : w.heap[b]? = some (.cells cs e fr)) (v : Value) : (w.setCell ⟨b, i, none⟩ v).heap[b]? = some (.cells (cs.setIfInBounds i v) e fr) := by
  simp [World.setCell, Array.getElem?_modify, h]
theorem ClmRaw.stored {w : World} {b : Nat} (h : ClmRaw w b) (c : Clm) :
    (((((((w.setCell ⟨b, 0, none⟩ (.string c.src)).setCell ⟨b, 1, none⟩ (.int .i64 c.kind)).setCell ⟨b, 2, none⟩ (.string c.place)).setCell ⟨b, 3, none⟩ (.string c.val)).setCell ⟨b, 4, none⟩ (.int .i64 c.fr)).setCell ⟨b, 5, none⟩ (.int .i64 c.to)).setCell ⟨b, 6, none⟩ (.int .i64 c.wt)).heap[b]? = some (.cells (clmCells c).toArray 27 (0, 0)) := by
  obtain ⟨cs, h1, h2⟩ := h
  have k0 := heap_set (i := 0) h1 (.string c.src)
  have k1 := heap_set (i := 1) k0 (.int .i64 c.kind)
  have k2 := heap_set (i := 2) k1 (.string c.place)
  have k3 := heap_set (i := 3) k2 (.string c.val)
  have k4 := heap_set (i := 4) k3 (.int .i64 c.fr)
  have k5 := heap_set (i := 5) k4 (.int .i64 c.to)
  have k6 := heap_set (i := 6) k5 (.int .i64 c.wt)
  rw [k6]
  clear k0 k1 k2 k3 k4 k5 k6 h1
  have e : ∀ (a0 a1 a2 a3 a4 a5 a6 v0 v1 v2 v3 v4 v5 v6 : Value), ((((((([a0, a1, a2, a3, a4, a5, a6].toArray.setIfInBounds 0 v0).setIfInBounds 1 v1).setIfInBounds 2 v2).setIfInBounds 3 v3).setIfInBounds 4 v4).setIfInBounds 5 v5).setIfInBounds 6 v6) = [v0, v1, v2, v3, v4, v5, v6].toArray := by
    intros
    simp only [List.setIfInBounds_toArray, List.set_cons_zero, List.set_cons_succ]
  obtain ⟨l, rfl⟩ : ∃ l : List Value, cs = l.toArray := ⟨cs.toList, by simp⟩
  have hl : l.length = 7 := by simpa using h2
  clear h2
  cases l with
  | nil => simp at hl
  | cons a0 l => cases l with
    | nil => simp at hl
    | cons a1 l => cases l with
      | nil => simp at hl
      | cons a2 l => cases l with
        | nil => simp at hl
        | cons a3 l => cases l with
          | nil => simp at hl
          | cons a4 l => cases l with
            | nil => simp at hl
            | cons a5 l => cases l with
              | nil => simp at hl
              | cons a6 l => cases l with
                | nil => rw [e]; rfl
                | cons a7 l => simp at hl
theorem cell_set2 {w : World} {b i : Nat} (h : ∃ v, w.cell? ⟨b, i, none⟩ = some v) (s t : Value) : ((w.setCell ⟨b, i, none⟩ s).setCell ⟨b, i, none⟩ t).cell? ⟨b, i, none⟩ = some t := by
  obtain ⟨v, h⟩ := h
  have h1 : (w.setCell ⟨b, i, none⟩ s).cell? ⟨b, i, none⟩ = some s := by simp [go_sem, h]
  simp [go_sem, h1]
theorem heap_first (w : World) (o1 o2 : Obj) : ((w.alloc o1).alloc o2).heap[w.heap.size]? = some o1 := (Below.heap_alloc _ _ _ (by simp)).trans (heap_alloc_new _ _)
abbrev storeC (w : World) (b : Nat) (c : Clm) : World :=
  ((((((w.setCell ⟨b, 0, none⟩ (.string c.src)).setCell ⟨b, 1, none⟩ (.int .i64 c.kind)).setCell ⟨b, 2, none⟩ (.string c.place)).setCell ⟨b, 3, none⟩ (.string c.val)).setCell ⟨b, 4, none⟩ (.int .i64 c.fr)).setCell ⟨b, 5, none⟩ (.int .i64 c.to)).setCell ⟨b, 6, none⟩ (.int .i64 c.wt)
theorem Ev.store {g : Nat} {w : World} {b : Nat} {c : Clm} (h : ClmRaw w b) (hc : OkC c) : Ev g w (storeC w b c) := by
  intro i hi hne
  by_cases e : i = b
  · subst e
    exact .inr ⟨h, c, hc, h.stored c⟩
  · left
    unfold storeC
    rw [Below.heap_setCell _ _ _ _ e, Below.heap_setCell _ _ _ _ e, Below.heap_setCell _ _ _ _ e, Below.heap_setCell _ _ _ _ e, Below.heap_setCell _ _ _ _ e, Below.heap_setCell _ _ _ _ e, Below.heap_setCell _ _ _ _ e]
theorem btw_store {g : Nat} {a w : World} (h : Between g (g + 1) a w) {b : Nat} (hb : a.heap.size ≤ b) (c : Clm) : Between g (g + 1) a (storeC w b c) :=
  btw_own (btw_own (btw_own (btw_own (btw_own (btw_own (btw_own h hb _) hb _) hb _) hb _) hb _) hb _) hb _
theorem src_store {g : Nat} {w : World} (h : SrcOk w g) {b : Nat} (hb : g < b) (c : Clm) : SrcOk (storeC w b c) g :=
  SrcOk.set (SrcOk.set (SrcOk.set (SrcOk.set (SrcOk.set (SrcOk.set (SrcOk.set h hb _) hb _) hb _) hb _) hb _) hb _) hb _
theorem clm_heap {w : World} {b : Nat} {c : Clm} (h : w.heap[b]? = some (.cells (clmCells c).toArray 27 (0, 0))) :
    w.cell? ⟨b, 0, none⟩ = some (.string c.src) ∧ w.cell? ⟨b, 1, none⟩ = some (.int .i64 c.kind) ∧ w.cell? ⟨b, 2, none⟩ = some (.string c.place) ∧ w.cell? ⟨b, 3, none⟩ = some (.string c.val) ∧ w.cell? ⟨b, 4, none⟩ = some (.int .i64 c.fr) ∧
    w.cell? ⟨b, 5, none⟩ = some (.int .i64 c.to) ∧ w.cell? ⟨b, 6, none⟩ = some (.int .i64 c.wt) ∧ ∀ i, w.frozen? ⟨b, i, none⟩ = false := by
  refine ⟨?_, ?_, ?_, ?_, ?_, ?_, ?_, fun i => ?_⟩ <;> simp [World.cell?, World.frozen?, h, clmCells]
/-- A world in which only the blocks g and b have turned, and a cell of b is as it was. -/
structure Link (W : World) (g b o : Nat) where
  w : World
  but : But g b W w
  keep : w.cell? ⟨b, o, none⟩ = W.cell? ⟨b, o, none⟩
instance (W : World) (g b o : Nat) : Nonempty (Link W g b o) := ⟨⟨W, But.refl _ _ _, rfl⟩⟩
@[irreducible] def Link.far {W : World} {g b o : Nat} (x : Link W g b o) (a : Addr) : Option Value := x.w.cell? a
theorem Link.cell {W : World} {g b o : Nat} (x : Link W g b o) (b' o' : Nat) : x.w.cell? ⟨b', o', none⟩ = if b' = b then (if o' = o then W.cell? ⟨b', o', none⟩ else x.far ⟨b', o', none⟩) else x.far ⟨b', o', none⟩ := by
  split
  · rename_i h1
    split
    · rename_i h2
      subst h1 h2
      exact x.keep
    · unfold Link.far; rfl
  · unfold Link.far; rfl
attribute [go_sem] Link.cell
def LinkC (g b o : Nat) (W w' : World) : Prop := ∃ x : Link W g b o, w' = x.w
attribute [go_sem] LinkC
theorem LinkC.mk {g b o : Nat} {W w' : World} (h : But g b W w' ∧ w'.cell? ⟨b, o, none⟩ = W.cell? ⟨b, o, none⟩) : LinkC g b o W w' := ⟨⟨w', h.1, h.2⟩, rfl⟩
/-- The worlds of a draw. -/
def SrcC (W : World) (g : Nat) (w' : World) : Prop := ∃ y : After W g (g + 1), w' = y.w ∧ SrcOk y.w g
theorem SrcC.mk {W : World} {g : Nat} {w' : World} (h : Between g (g + 1) W w') (hs : SrcOk w' g) : SrcC W g w' := ⟨⟨w', h⟩, rfl, hs⟩
def RetClmD (w : World) (g : Nat) (e : Ending) (w' : World) : Prop :=
  ∃ c : Clm, OkC c ∧ e = .returned (clmV c) ∧ ∃ z : After w g (g + 1), w' = z.w ∧ SrcOk z.w g
theorem RetClmD.mk {w w' : World} {g : Nat} {e : Ending} {c : Clm} (hc : OkC c) (he : e = .returned (clmV c)) (hb : Between g (g + 1) w w') (hs : SrcOk w' g) : RetClmD w g e w' := ⟨c, hc, he, ⟨w', hb⟩, rfl, hs⟩
set_option maxRecDepth 8000 in
set_option maxHeartbeats 8000000 in
theorem sClmGood_any (g : Nat) (w : World) (h : SrcOk w g) : Calls Tryz.prog 26 #[.pointer (some ⟨g, 0, none⟩)] w (RetClmD w g) := by
  have hg := h.lt
  have H0 := Lib.hid h
  clear h
  go_enter Tryz.func26, Tryz.ntmps26
  go_wp2_with fail
  obtain ⟨W, hW⟩ : ∃ W, W = (w.alloc (.cells #[.string ⟨#[]⟩, .int .i64 0, .string ⟨#[]⟩, .string ⟨#[]⟩, .int .i64 0, .int .i64 0, .int .i64 0] 27)).alloc (.cells #[.string ⟨#[97, 115, 104]⟩, .string ⟨#[98, 114, 105, 103]⟩, .string ⟨#[99, 111, 114, 107]⟩] 9) := ⟨_, rfl⟩
  have hWs : W.heap.size = w.heap.size + 1 + 1 := by rw [hW]; simp
  have hWb : Between g (g + 1) w W := by rw [hW]; exact btw_alloc (btw_alloc (Between.refl _ _ _) _) _
  have hres := Lib.hid (show W.heap[w.heap.size]? = some (.cells #[.string ⟨#[]⟩, .int .i64 0, .string ⟨#[]⟩, .string ⟨#[]⟩, .int .i64 0, .int .i64 0, .int .i64 0] 27 (0, 0)) from by rw [hW]; exact heap_first _ _ _)
  have HS := Lib.hid (show SrcOk W.drew g by rw [hW]; (repeat (first | (with_reducible exact H0.out) | (with_reducible refine SrcOk.alloc ?_ _) | (with_reducible refine SrcOk.set ?_ ?_ _) | (with_reducible refine SrcOk.drewN ?_ _) | (with_reducible refine SrcOk.drew ?_) | (with_reducible refine SrcOk.later _ ?_) | (with_reducible refine SrcOk.after _ ?_ ?_) | (dsimp only; omega) | omega | ((try simp only [World.size_alloc, World.size_setCell, World.size_drew]); omega))))
  have hplaces := Lib.hid (show StrBlk W.drew (w.heap.size + 1) 3 from StrBlk.of (fr := (0, 0)) (by rw [hW]; exact heap_two _ _ _) rfl (by decide))
  rw [← hW]
  clear hW
  refine wp_region_inv (SrcC W.drew g) (Ev g) (fun i v w' => match i with
    | 0 => ∃ b, v = .slice (some ⟨b, 0, none⟩) 4 4 ∧ b ≠ g ∧ StrBlk w' b 4
    | 1 | 5 | 9 | 13 | 17 => v = .pointer (some ⟨g, 0, none⟩)
    | 2 => ∃ r : Nat, v = .int .i64 r ∧ r < 4
    | 3 => ∃ b r : Nat, v = .pointer (some ⟨b, r, none⟩) ∧ r < 4 ∧ b ≠ g ∧ StrBlk w' b 4
    | 4 => ∃ s : ByteArray, v = .string s ∧ s.size ≤ 100
    | 6 => ∃ b, v = .slice (some ⟨b, 0, none⟩) 6 6 ∧ b ≠ g ∧ IntBlk w' b [0, 0, 1, 1, 2, 3]
    | 7 => ∃ k : Int, v = .int .i64 k ∧ 0 ≤ k ∧ k ≤ 3
    | 8 => v = .slice (some ⟨w.heap.size + 1, 0, none⟩) 3 3 ∧ StrBlk w' (w.heap.size + 1) 3
    | 10 => ∃ r : Nat, v = .int .i64 r ∧ r < 3
    | 11 => ∃ b r : Nat, v = .pointer (some ⟨b, r, none⟩) ∧ r < 3 ∧ b ≠ g ∧ StrBlk w' b 3
    | 12 => ∃ s : ByteArray, v = .string s ∧ s.size ≤ 100
    | 14 => ∃ r : Nat, v = .int .i64 r ∧ r < 60
    | 15 => ∃ r : Nat, v = .int .i64 r ∧ 1200 ≤ r ∧ r < 1260
    | 16 => ∃ r : Nat, v = .agg #[.int .i64 r, .int .i64 0] ∧ 1200 ≤ r ∧ r < 1260
    | 18 => ∃ r : Nat, v = .int .i64 r ∧ r < 9
    | 19 => ∃ r : Nat, v = .int .i64 r ∧ r < 10
    | 20 => ∃ c, OkC c ∧ v = clmV c
    | 21 => ∃ b, v = .pointer (some ⟨b, 0, none⟩) ∧ W.heap.size ≤ b ∧ ClmRaw w' b
    | _ => True) 22 21 (fun v w' => ∃ b, v = .pointer (some ⟨b, 0, none⟩) ∧ W.heap.size ≤ b ∧ GoodBlk w' b) (by kernel_rfl) (by kernel_rfl) (by kernel_rfl) (by kernel_rfl) (SrcC.mk (Between.refl _ _ _) HS.out) ?hst ?hstP ⟨?op0, ?op1, ?op2, ?op3, ?op4, ?op5, ?op6, ?op7, ?op8, ?op9, ?op10, ?op11, ?op12, ?op13, ?op14, ?op15, ?op16, ?op17, ?op18, ?op19, ?op20, ?op21, ?op22, trivial⟩ ?hend
  case op0 =>
    rintro xv _ ⟨y, rfl, hS⟩ hd
    (try simp only [List.mem_toArray, List.forall_mem_cons, List.not_mem_nil, false_imp_iff, implies_true, and_true, Region.binds, forall_const] at hd)
    have hg1 : g < y.w.heap.size := hS.lt
    have hsy := y.btw.size
    simp only [putAll, Act.put, List.setIfInBounds_toArray, List.set_cons_zero, List.set_cons_succ, Nat.zero_add, Nat.reduceAdd]
    refine op_loud (by rfl) (by rfl) ?_
    intro KP hKP
    replace hKP := Lib.hid hKP
    go_wp2_with fail
    refine hKP.out _ _ ⟨_, rfl, SrcC.mk (btw_alloc y.btw _) (hS.alloc _), Ev.alloc _ _ _, ⟨y.w.heap.size, rfl, by omega, StrBlk.of (heap_alloc_new _ _) rfl (by decide)⟩, (fun h => absurd h (by decide))⟩
  case op1 =>
    rintro xv _ ⟨y, rfl, hS⟩ hd
    (try simp only [List.mem_toArray, List.forall_mem_cons, List.not_mem_nil, false_imp_iff, implies_true, and_true, Region.binds, forall_const] at hd)
    simp only [putAll, Act.put, List.setIfInBounds_toArray, List.set_cons_zero, List.set_cons_succ, Nat.zero_add, Nat.reduceAdd]
    refine op_loud (by rfl) (by rfl) ?_
    intro KP hKP
    replace hKP := Lib.hid hKP
    go_wp2_with fail
    refine hKP.out _ _ ⟨_, rfl, SrcC.mk y.btw hS, Ev.refl _ _, rfl, (fun h => absurd h (by decide))⟩
  case op5 =>
    rintro xv _ ⟨y, rfl, hS⟩ hd
    (try simp only [List.mem_toArray, List.forall_mem_cons, List.not_mem_nil, false_imp_iff, implies_true, and_true, Region.binds, forall_const] at hd)
    simp only [putAll, Act.put, List.setIfInBounds_toArray, List.set_cons_zero, List.set_cons_succ, Nat.zero_add, Nat.reduceAdd]
    refine op_loud (by rfl) (by rfl) ?_
    intro KP hKP
    replace hKP := Lib.hid hKP
    go_wp2_with fail
    refine hKP.out _ _ ⟨_, rfl, SrcC.mk y.btw hS, Ev.refl _ _, rfl, (fun h => absurd h (by decide))⟩
  case op9 =>
    rintro xv _ ⟨y, rfl, hS⟩ hd
    (try simp only [List.mem_toArray, List.forall_mem_cons, List.not_mem_nil, false_imp_iff, implies_true, and_true, Region.binds, forall_const] at hd)
    simp only [putAll, Act.put, List.setIfInBounds_toArray, List.set_cons_zero, List.set_cons_succ, Nat.zero_add, Nat.reduceAdd]
    refine op_loud (by rfl) (by rfl) ?_
    intro KP hKP
    replace hKP := Lib.hid hKP
    go_wp2_with fail
    refine hKP.out _ _ ⟨_, rfl, SrcC.mk y.btw hS, Ev.refl _ _, rfl, (fun h => absurd h (by decide))⟩
  case op13 =>
    rintro xv _ ⟨y, rfl, hS⟩ hd
    (try simp only [List.mem_toArray, List.forall_mem_cons, List.not_mem_nil, false_imp_iff, implies_true, and_true, Region.binds, forall_const] at hd)
    simp only [putAll, Act.put, List.setIfInBounds_toArray, List.set_cons_zero, List.set_cons_succ, Nat.zero_add, Nat.reduceAdd]
    refine op_loud (by rfl) (by rfl) ?_
    intro KP hKP
    replace hKP := Lib.hid hKP
    go_wp2_with fail
    refine hKP.out _ _ ⟨_, rfl, SrcC.mk y.btw hS, Ev.refl _ _, rfl, (fun h => absurd h (by decide))⟩
  case op17 =>
    rintro xv _ ⟨y, rfl, hS⟩ hd
    (try simp only [List.mem_toArray, List.forall_mem_cons, List.not_mem_nil, false_imp_iff, implies_true, and_true, Region.binds, forall_const] at hd)
    simp only [putAll, Act.put, List.setIfInBounds_toArray, List.set_cons_zero, List.set_cons_succ, Nat.zero_add, Nat.reduceAdd]
    refine op_loud (by rfl) (by rfl) ?_
    intro KP hKP
    replace hKP := Lib.hid hKP
    go_wp2_with fail
    refine hKP.out _ _ ⟨_, rfl, SrcC.mk y.btw hS, Ev.refl _ _, rfl, (fun h => absurd h (by decide))⟩
  case op2 =>
    rintro xv _ ⟨y, rfl, hS⟩ hd
    (try simp only [List.mem_toArray, List.forall_mem_cons, List.not_mem_nil, false_imp_iff, implies_true, and_true, Region.binds, forall_const] at hd)
    simp only [putAll, Act.put, List.setIfInBounds_toArray, List.set_cons_zero, List.set_cons_succ, Nat.zero_add, Nat.reduceAdd, hd]
    refine op_loud (by rfl) (by rfl) ?_
    intro KP hKP
    replace hKP := Lib.hid hKP
    go_wp2_with (go_at_call 27; (with_reducible refine (next_any g 4 _ hS).mono ?_); rintro e w' ⟨r, ⟨r0, r1⟩, rfl, z, rfl, hsrc⟩)
    refine hKP.out _ _ ⟨_, rfl, SrcC.mk (y.btw.trans z.btw) hsrc, Ev.after z, ⟨r.toNat, by rw [Int.toNat_of_nonneg r0], by omega⟩, (fun h => absurd h (by decide))⟩
  case op3 =>
    rintro xv _ ⟨y, rfl, hS⟩ hd
    (try simp only [List.mem_toArray, List.forall_mem_cons, List.not_mem_nil, false_imp_iff, implies_true, and_true, Region.binds, forall_const] at hd)
    obtain ⟨⟨b, e1, hb, hB⟩, ⟨r, e2, hr⟩⟩ := hd
    have i1 : (r : Int) < 4 := by omega
    simp only [putAll, Act.put, List.setIfInBounds_toArray, List.set_cons_zero, List.set_cons_succ, Nat.zero_add, Nat.reduceAdd, e1, e2]
    refine op_loud (by rfl) (by rfl) ?_
    intro KP hKP
    replace hKP := Lib.hid hKP
    go_wp2_with fail
    refine hKP.out _ _ ⟨_, rfl, SrcC.mk y.btw hS, Ev.refl _ _, ⟨b, r, rfl, hr, hb, hB⟩, (fun h => absurd h (by decide))⟩
  case op4 =>
    rintro xv _ ⟨y, rfl, hS⟩ hd
    (try simp only [List.mem_toArray, List.forall_mem_cons, List.not_mem_nil, false_imp_iff, implies_true, and_true, Region.binds, forall_const] at hd)
    obtain ⟨b, r, e1, hr, hb, hB⟩ := hd
    obtain ⟨s, hs, hz⟩ := hB.row hr
    simp only [putAll, Act.put, List.setIfInBounds_toArray, List.set_cons_zero, List.set_cons_succ, Nat.zero_add, Nat.reduceAdd, e1]
    refine op_loud (by rfl) (by rfl) ?_
    intro KP hKP
    replace hKP := Lib.hid hKP
    go_wp2_with fail
    refine hKP.out _ _ ⟨_, rfl, SrcC.mk y.btw hS, Ev.refl _ _, ⟨s, rfl, hz⟩, (fun h => absurd h (by decide))⟩
  case op6 =>
    rintro xv _ ⟨y, rfl, hS⟩ hd
    (try simp only [List.mem_toArray, List.forall_mem_cons, List.not_mem_nil, false_imp_iff, implies_true, and_true, Region.binds, forall_const] at hd)
    have hg1 : g < y.w.heap.size := hS.lt
    simp only [putAll, Act.put, List.setIfInBounds_toArray, List.set_cons_zero, List.set_cons_succ, Nat.zero_add, Nat.reduceAdd]
    refine op_loud (by rfl) (by rfl) ?_
    intro KP hKP
    replace hKP := Lib.hid hKP
    go_wp2_with fail
    refine hKP.out _ _ ⟨_, rfl, SrcC.mk (btw_alloc y.btw _) (hS.alloc _), Ev.alloc _ _ _, ⟨y.w.heap.size, rfl, by omega, _, heap_alloc_new _ _⟩, (fun h => absurd h (by decide))⟩
  case op7 =>
    rintro xv _ ⟨y, rfl, hS⟩ hd
    (try simp only [List.mem_toArray, List.forall_mem_cons, List.not_mem_nil, false_imp_iff, implies_true, and_true, Region.binds, forall_const] at hd)
    obtain ⟨e1, ⟨b, e2, hb, hB⟩, -⟩ := hd
    simp only [putAll, Act.put, List.setIfInBounds_toArray, List.set_cons_zero, List.set_cons_succ, Nat.zero_add, Nat.reduceAdd, e1, e2]
    refine op_loud (by rfl) (by rfl) ?_
    intro KP hKP
    replace hKP := Lib.hid hKP
    go_wp2_with (go_at_call 57; (with_reducible refine (pick_any g [0, 0, 1, 1, 2, 3] _ 6 6 _ hS rfl (by omega) (by omega) hB.row (fun p hp => by cases hp; exact hb)).mono ?_); rintro e w' ⟨v, hmem, rfl, z, rfl, hsrc⟩; simp only [List.mem_cons, List.not_mem_nil, or_false] at hmem)
    refine hKP.out _ _ ⟨_, rfl, SrcC.mk (y.btw.trans z.btw) hsrc, Ev.after z, ⟨v, rfl, by omega, by omega⟩, (fun h => absurd h (by decide))⟩
  case op8 =>
    rintro xv _ ⟨y, rfl, hS⟩ hd
    (try simp only [List.mem_toArray, List.forall_mem_cons, List.not_mem_nil, false_imp_iff, implies_true, and_true, Region.binds, forall_const] at hd)
    have hB : StrBlk y.w (w.heap.size + 1) 3 := hplaces.out.ev (Ev.after y) (by omega)
    simp only [putAll, Act.put, List.setIfInBounds_toArray, List.set_cons_zero, List.set_cons_succ, Nat.zero_add, Nat.reduceAdd]
    refine op_loud (by rfl) (by rfl) ?_
    intro KP hKP
    replace hKP := Lib.hid hKP
    go_wp2_with fail
    refine hKP.out _ _ ⟨_, rfl, SrcC.mk y.btw hS, Ev.refl _ _, ⟨rfl, hB⟩, (fun h => absurd h (by decide))⟩
  case op10 =>
    rintro xv _ ⟨y, rfl, hS⟩ hd
    (try simp only [List.mem_toArray, List.forall_mem_cons, List.not_mem_nil, false_imp_iff, implies_true, and_true, Region.binds, forall_const] at hd)
    obtain ⟨e1, -⟩ := hd
    simp only [putAll, Act.put, List.setIfInBounds_toArray, List.set_cons_zero, List.set_cons_succ, Nat.zero_add, Nat.reduceAdd, e1]
    refine op_loud (by rfl) (by rfl) ?_
    intro KP hKP
    replace hKP := Lib.hid hKP
    go_wp2_with (go_at_call 27; (with_reducible refine (next_any g 3 _ hS).mono ?_); rintro e w' ⟨r, ⟨r0, r1⟩, rfl, z, rfl, hsrc⟩)
    refine hKP.out _ _ ⟨_, rfl, SrcC.mk (y.btw.trans z.btw) hsrc, Ev.after z, ⟨r.toNat, by rw [Int.toNat_of_nonneg r0], by omega⟩, (fun h => absurd h (by decide))⟩
  case op11 =>
    rintro xv _ ⟨y, rfl, hS⟩ hd
    (try simp only [List.mem_toArray, List.forall_mem_cons, List.not_mem_nil, false_imp_iff, implies_true, and_true, Region.binds, forall_const] at hd)
    obtain ⟨⟨e1, hB⟩, ⟨r, e2, hr⟩⟩ := hd
    have i1 : (r : Int) < 3 := by omega
    simp only [putAll, Act.put, List.setIfInBounds_toArray, List.set_cons_zero, List.set_cons_succ, Nat.zero_add, Nat.reduceAdd, e1, e2]
    refine op_loud (by rfl) (by rfl) ?_
    intro KP hKP
    replace hKP := Lib.hid hKP
    go_wp2_with fail
    refine hKP.out _ _ ⟨_, rfl, SrcC.mk y.btw hS, Ev.refl _ _, ⟨_, r, rfl, hr, by omega, hB⟩, (fun h => absurd h (by decide))⟩
  case op12 =>
    rintro xv _ ⟨y, rfl, hS⟩ hd
    (try simp only [List.mem_toArray, List.forall_mem_cons, List.not_mem_nil, false_imp_iff, implies_true, and_true, Region.binds, forall_const] at hd)
    obtain ⟨b, r, e1, hr, hb, hB⟩ := hd
    obtain ⟨s, hs, hz⟩ := hB.row hr
    simp only [putAll, Act.put, List.setIfInBounds_toArray, List.set_cons_zero, List.set_cons_succ, Nat.zero_add, Nat.reduceAdd, e1]
    refine op_loud (by rfl) (by rfl) ?_
    intro KP hKP
    replace hKP := Lib.hid hKP
    go_wp2_with fail
    refine hKP.out _ _ ⟨_, rfl, SrcC.mk y.btw hS, Ev.refl _ _, ⟨s, rfl, hz⟩, (fun h => absurd h (by decide))⟩
  case op14 =>
    rintro xv _ ⟨y, rfl, hS⟩ hd
    (try simp only [List.mem_toArray, List.forall_mem_cons, List.not_mem_nil, false_imp_iff, implies_true, and_true, Region.binds, forall_const] at hd)
    obtain ⟨e1, -⟩ := hd
    simp only [putAll, Act.put, List.setIfInBounds_toArray, List.set_cons_zero, List.set_cons_succ, Nat.zero_add, Nat.reduceAdd, e1]
    refine op_loud (by rfl) (by rfl) ?_
    intro KP hKP
    replace hKP := Lib.hid hKP
    go_wp2_with (go_at_call 27; (with_reducible refine (next_any g 60 _ hS).mono ?_); rintro e w' ⟨r, ⟨r0, r1⟩, rfl, z, rfl, hsrc⟩)
    refine hKP.out _ _ ⟨_, rfl, SrcC.mk (y.btw.trans z.btw) hsrc, Ev.after z, ⟨r.toNat, by rw [Int.toNat_of_nonneg r0], by omega⟩, (fun h => absurd h (by decide))⟩
  case op15 =>
    rintro xv _ ⟨y, rfl, hS⟩ hd
    (try simp only [List.mem_toArray, List.forall_mem_cons, List.not_mem_nil, false_imp_iff, implies_true, and_true, Region.binds, forall_const] at hd)
    obtain ⟨r, e1, hr⟩ := hd
    simp only [putAll, Act.put, List.setIfInBounds_toArray, List.set_cons_zero, List.set_cons_succ, Nat.zero_add, Nat.reduceAdd, e1]
    refine op_loud (by rfl) (by rfl) ?_
    intro KP hKP
    replace hKP := Lib.hid hKP
    go_wp2_with fail
    refine hKP.out _ _ ⟨_, rfl, SrcC.mk y.btw hS, Ev.refl _ _, ⟨1200 + r, by simp, by omega, by omega⟩, (fun h => absurd h (by decide))⟩
  case op16 =>
    rintro xv _ ⟨y, rfl, hS⟩ hd
    (try simp only [List.mem_toArray, List.forall_mem_cons, List.not_mem_nil, false_imp_iff, implies_true, and_true, Region.binds, forall_const] at hd)
    obtain ⟨r, e1, hr, hr2⟩ := hd
    simp only [putAll, Act.put, List.setIfInBounds_toArray, List.set_cons_zero, List.set_cons_succ, Nat.zero_add, Nat.reduceAdd, e1]
    refine op_loud (by rfl) (by rfl) ?_
    intro KP hKP
    replace hKP := Lib.hid hKP
    go_wp2_with fail
    refine hKP.out _ _ ⟨_, rfl, SrcC.mk y.btw hS, Ev.refl _ _, ⟨r, rfl, hr, hr2⟩, (fun h => absurd h (by decide))⟩
  case op18 =>
    rintro xv _ ⟨y, rfl, hS⟩ hd
    (try simp only [List.mem_toArray, List.forall_mem_cons, List.not_mem_nil, false_imp_iff, implies_true, and_true, Region.binds, forall_const] at hd)
    obtain ⟨e1, -⟩ := hd
    simp only [putAll, Act.put, List.setIfInBounds_toArray, List.set_cons_zero, List.set_cons_succ, Nat.zero_add, Nat.reduceAdd, e1]
    refine op_loud (by rfl) (by rfl) ?_
    intro KP hKP
    replace hKP := Lib.hid hKP
    go_wp2_with (go_at_call 27; (with_reducible refine (next_any g 9 _ hS).mono ?_); rintro e w' ⟨r, ⟨r0, r1⟩, rfl, z, rfl, hsrc⟩)
    refine hKP.out _ _ ⟨_, rfl, SrcC.mk (y.btw.trans z.btw) hsrc, Ev.after z, ⟨r.toNat, by rw [Int.toNat_of_nonneg r0], by omega⟩, (fun h => absurd h (by decide))⟩
  case op19 =>
    rintro xv _ ⟨y, rfl, hS⟩ hd
    (try simp only [List.mem_toArray, List.forall_mem_cons, List.not_mem_nil, false_imp_iff, implies_true, and_true, Region.binds, forall_const] at hd)
    obtain ⟨r, e1, hr⟩ := hd
    simp only [putAll, Act.put, List.setIfInBounds_toArray, List.set_cons_zero, List.set_cons_succ, Nat.zero_add, Nat.reduceAdd, e1]
    refine op_loud (by rfl) (by rfl) ?_
    intro KP hKP
    replace hKP := Lib.hid hKP
    go_wp2_with fail
    refine hKP.out _ _ ⟨_, rfl, SrcC.mk y.btw hS, Ev.refl _ _, ⟨1 + r, by simp, by omega⟩, (fun h => absurd h (by decide))⟩
  case op20 =>
    rintro xv _ ⟨y, rfl, hS⟩ hd
    (try simp only [List.mem_toArray, List.forall_mem_cons, List.not_mem_nil, false_imp_iff, implies_true, and_true, Region.binds, forall_const] at hd)
    obtain ⟨⟨s1, e1, z1⟩, ⟨k, e2, k0, k1⟩, ⟨s2, e3, z2⟩, ⟨r1, e4, f0, f1⟩, ⟨r2, e5, hr2⟩⟩ := hd
    simp only [putAll, Act.put, List.setIfInBounds_toArray, List.set_cons_zero, List.set_cons_succ, Nat.zero_add, Nat.reduceAdd, e1, e2, e3, e4, e5]
    refine op_loud (by rfl) (by rfl) ?_
    intro KP hKP
    replace hKP := Lib.hid hKP
    go_wp2_with fail
    refine hKP.out _ _ ⟨_, rfl, SrcC.mk y.btw hS, Ev.refl _ _, ⟨⟨s1, k, s2, ⟨#[]⟩, r1, 0, r2⟩, ⟨z1, z2, Nat.zero_le _, by dsimp only; omega, by dsimp only; omega⟩, rfl⟩, (fun h => absurd h (by decide))⟩
  case op21 =>
    rintro xv _ ⟨y, rfl, hS⟩ hd
    (try simp only [List.mem_toArray, List.forall_mem_cons, List.not_mem_nil, false_imp_iff, implies_true, and_true, Region.binds, forall_const] at hd)
    have hg1 : g < y.w.heap.size := hS.lt
    have hsy := y.btw.size
    simp only [putAll, Act.put, List.setIfInBounds_toArray, List.set_cons_zero, List.set_cons_succ, Nat.zero_add, Nat.reduceAdd]
    refine op_loud (by rfl) (by rfl) ?_
    intro KP hKP
    replace hKP := Lib.hid hKP
    go_wp2_with fail
    refine hKP.out _ _ ⟨_, rfl, SrcC.mk (btw_alloc y.btw _) (hS.alloc _), Ev.alloc _ _ _, ⟨y.w.heap.size, rfl, by simpa using hsy, _, heap_alloc_new _ _, rfl⟩, (fun h => absurd h (by decide))⟩
  case op22 =>
    rintro xv _ ⟨y, rfl, hS⟩ hd
    (try simp only [List.mem_toArray, List.forall_mem_cons, List.not_mem_nil, false_imp_iff, implies_true, and_true, Region.binds, forall_const] at hd)
    obtain ⟨⟨b, e2, hb, hB⟩, ⟨c, hc, e1⟩, -⟩ := hd
    have hg1 : g < W.heap.size := by omega
    obtain ⟨v0, c0⟩ := hB.cells (i := 0) (by omega)
    obtain ⟨v1, c1⟩ := hB.cells (i := 1) (by omega)
    obtain ⟨v2, c2⟩ := hB.cells (i := 2) (by omega)
    obtain ⟨v3, c3⟩ := hB.cells (i := 3) (by omega)
    obtain ⟨v4, c4⟩ := hB.cells (i := 4) (by omega)
    obtain ⟨v5, c5⟩ := hB.cells (i := 5) (by omega)
    obtain ⟨v6, c6⟩ := hB.cells (i := 6) (by omega)
    have f0 := hB.free 0
    have f1 := hB.free 1
    have f2 := hB.free 2
    have f3 := hB.free 3
    have f4 := hB.free 4
    have f5 := hB.free 5
    have f6 := hB.free 6
    replace hB := Lib.hid hB
    replace e2 := Lib.hid e2
    simp only [putAll, Act.put, List.setIfInBounds_toArray, List.set_cons_zero, List.set_cons_succ, Nat.zero_add, Nat.reduceAdd, e1, e2.out]
    refine op_loud (by rfl) (by rfl) ?_
    intro KP hKP
    replace hKP := Lib.hid hKP
    go_wp2_with fail
    refine hKP.out _ _ ⟨undef, rfl, SrcC.mk (btw_store y.btw (by simpa using hb) c) (src_store hS (by omega) c), Ev.store hB.out hc, trivial, fun _ => ⟨b, rfl, hb, c, hc, hB.out.stored c⟩⟩
  case hst =>
    intro i v w1 w2 hE h
    match i, h with
    | 0, ⟨b, h1, h2, h3⟩ => exact ⟨b, h1, h2, h3.ev hE h2⟩
    | 1, h => exact h
    | 2, h => exact h
    | 3, ⟨b, r, h1, h2, h3, h4⟩ => exact ⟨b, r, h1, h2, h3, h4.ev hE h3⟩
    | 4, h => exact h
    | 5, h => exact h
    | 6, ⟨b, h1, h2, h3⟩ => exact ⟨b, h1, h2, h3.ev hE h2⟩
    | 7, h => exact h
    | 8, ⟨h1, h2⟩ => exact ⟨h1, h2.ev hE (by omega)⟩
    | 9, h => exact h
    | 10, h => exact h
    | 11, ⟨b, r, h1, h2, h3, h4⟩ => exact ⟨b, r, h1, h2, h3, h4.ev hE h3⟩
    | 12, h => exact h
    | 13, h => exact h
    | 14, h => exact h
    | 15, h => exact h
    | 16, h => exact h
    | 17, h => exact h
    | 18, h => exact h
    | 19, h => exact h
    | 20, h => exact h
    | 21, ⟨b, h1, h2, h3⟩ => exact ⟨b, h1, h2, h3.ev hE (by omega)⟩
    | n + 22, h => trivial
  case hstP =>
    rintro v w1 w2 hE ⟨b, rfl, hb, hG⟩
    exact ⟨b, rfl, hb, hG.ev hE (by omega)⟩
  case hend =>
    rintro xv _ ⟨y, rfl, hS⟩ hall hP
    obtain ⟨b, e21, hb, c, ⟨k1, k2, k3, hf0, hf1⟩, hBlk⟩ := hP (by decide)
    clear hall hP
    have hsy := y.btw.size
    simp only [World.size_drew] at hsy
    have hbl := lt_of_heap hBlk
    have hgb : g < b := by omega
    have hgb1 : g + 1 ≤ b := by omega
    have hR : y.w.heap[w.heap.size]? = some (.cells #[.string ⟨#[]⟩, .int .i64 0, .string ⟨#[]⟩, .string ⟨#[]⟩, .int .i64 0, .int .i64 0, .int .i64 0] 27 (0, 0)) := (y.btw.block _ (by simp only [World.size_drew]; omega) (by omega)).trans hres.out
    obtain ⟨src, kind, place, val, fr, tt, wt⟩ := c
    obtain ⟨q0, q1, q2, q3, q4, q5, q6, qf⟩ := clm_heap hBlk
    obtain ⟨r0, r1, r2, r3, r4, r5, r6, rf⟩ := clm_heap (c := ⟨⟨#[]⟩, 0, ⟨#[]⟩, ⟨#[]⟩, 0, 0, 0⟩) hR
    have f3 := qf 3
    have f5 := qf 5
    have g0 := rf 0
    have g1 := rf 1
    have g2 := rf 2
    have g3 := rf 3
    have g4 := rf 4
    have g5 := rf 5
    have g6 := rf 6
    dsimp only at k1 k2 k3 hf0 hf1 q0 q1 q2 q3 q4 q5 q6 r0 r1 r2 r3 r4 r5 r6
    clear qf rf hBlk hR hplaces HS H0
    have u1 : w.heap.size < y.w.heap.size := (by omega)
    have u2 : ¬ b = g := by omega
    have u3 : ¬ w.heap.size = g := by omega
    have u4 : ¬ w.heap.size = b := by omega
    have u5 : ¬ b = w.heap.size := by omega
    have u6 : g < w.heap.size := hg
    have hbw : w.heap.size ≤ b := by omega
    have hB0 : Between g (g + 1) w y.w := hWb.drew.trans y.btw
    replace hB0 := Lib.hid hB0
    replace hS := Lib.hid hS
    simp only [putAll, Act.put, List.setIfInBounds_toArray, List.set_cons_zero, List.set_cons_succ, e21]
    clear e21
    go_wp2_with fail
    refine wp_region_plan [(0, true), (1, true), (2, true), (3, true), (4, false), (5, true), (6, true), (7, true), (8, false)] (C := LinkC g b 4 _) (by kernel_rfl) (by kernel_rfl) (by kernel_rfl) rfl (fun _ _ d _ _ h => by cases d <;> exact h) (LinkC.mk (⟨(But.refl _ _ _).drew, by (first | rfl | assumption | (simp [go_sem, ↓IntWalk.iteOmega, *]; done))⟩)) ?_
    first | (refine plan_quiet nth0 rfl ?_; intro KP hKP; go_big_quiet_op; go_big_quiet_on) | (refine plan_skip_q nth0 rfl rfl ?_; simp only [Act.put, List.setIfInBounds_toArray, List.set_cons_zero, List.set_cons_succ])
    first | (refine plan_quiet nth1 rfl ?_; intro KP hKP; go_big_quiet_op; go_big_quiet_on) | (refine plan_skip_q nth1 rfl rfl ?_; simp only [Act.put, List.setIfInBounds_toArray, List.set_cons_zero, List.set_cons_succ])
    first | (refine plan_quiet nth2 rfl ?_; intro KP hKP; go_big_quiet_op; go_big_quiet_on) | (refine plan_skip_q nth2 rfl rfl ?_; simp only [Act.put, List.setIfInBounds_toArray, List.set_cons_zero, List.set_cons_succ])
    first | (refine plan_quiet nth3 rfl ?_; intro KP hKP; go_big_quiet_op; go_big_quiet_on) | (refine plan_skip_q nth3 rfl rfl ?_; simp only [Act.put, List.setIfInBounds_toArray, List.set_cons_zero, List.set_cons_succ])
    first | (refine plan_loud nth4 rfl ?_; intro KP hKP; go_wp2_with (first | (go_at_call 27; (with_reducible refine (next_any g 60 _ (by (repeat (first | (with_reducible exact hS.out) | (with_reducible refine SrcOk.alloc ?_ _) | (with_reducible refine SrcOk.set ?_ ?_ _) | (with_reducible refine SrcOk.drewN ?_ _) | (with_reducible refine SrcOk.drew ?_) | (with_reducible refine SrcOk.later _ ?_) | (with_reducible refine SrcOk.after _ ?_ ?_) | (dsimp only; omega) | omega | ((try simp only [World.size_alloc, World.size_setCell, World.size_drew]); omega))))).mono ?_); rintro e w' ⟨p3, hdraw, rfl, z3, rfl, hsrc⟩; have hsz3 := z3.btw.size; (try simp only [World.size_alloc, World.size_setCell, World.size_drew] at hsz3); have H3 := Lib.hid hsrc; clear hsrc; obtain ⟨p30, p31⟩ := hdraw)); refine hKP _ _ (LinkC.mk (by exact ⟨by (repeat (first | (with_reducible exact But.refl _ _ _) | (with_reducible refine But.drew ?_) | (with_reducible refine But.drewN ?_ _) | (with_reducible refine But.set ?_ ?_ _) | (with_reducible refine But.after _ ?_) | (with_reducible refine but_later _ ?_) | (with_reducible refine but_alloc ?_ _) | (with_reducible assumption) | (exact .inl rfl) | (exact .inr rfl) | (dsimp only; omega) | omega)), by (first | rfl | assumption | (simp [go_sem, ↓IntWalk.iteOmega, *]; done))⟩)) ?_; clear hKP KP) | (refine plan_skip nth4 rfl rfl (LinkC.mk (by exact ⟨by (repeat (first | (with_reducible exact But.refl _ _ _) | (with_reducible refine But.drew ?_) | (with_reducible refine But.drewN ?_ _) | (with_reducible refine But.set ?_ ?_ _) | (with_reducible refine But.after _ ?_) | (with_reducible refine but_later _ ?_) | (with_reducible refine but_alloc ?_ _) | (with_reducible assumption) | (exact .inl rfl) | (exact .inr rfl) | (dsimp only; omega) | omega)), by (first | rfl | assumption | (simp [go_sem, ↓IntWalk.iteOmega, *]; done))⟩)) ?_; simp only [Act.put, List.setIfInBounds_toArray, List.set_cons_zero, List.set_cons_succ])
    first | (refine plan_quiet nth5 rfl ?_; intro KP hKP; go_big_quiet_op; go_big_quiet_on) | (refine plan_skip_q nth5 rfl rfl ?_; simp only [Act.put, List.setIfInBounds_toArray, List.set_cons_zero, List.set_cons_succ])
    first | (refine plan_quiet nth6 rfl ?_; intro KP hKP; go_big_quiet_op; go_big_quiet_on) | (refine plan_skip_q nth6 rfl rfl ?_; simp only [Act.put, List.setIfInBounds_toArray, List.set_cons_zero, List.set_cons_succ])
    first | (refine plan_quiet nth7 rfl ?_; intro KP hKP; go_big_quiet_op; go_big_quiet_on) | (refine plan_skip_q nth7 rfl rfl ?_; simp only [Act.put, List.setIfInBounds_toArray, List.set_cons_zero, List.set_cons_succ])
    first | (refine plan_loud nth8 rfl ?_; intro KP hKP; go_wp2_with (first | (go_at_call 27; (with_reducible refine (next_any g 60 _ (by (repeat (first | (with_reducible exact hS.out) | (with_reducible refine SrcOk.alloc ?_ _) | (with_reducible refine SrcOk.set ?_ ?_ _) | (with_reducible refine SrcOk.drewN ?_ _) | (with_reducible refine SrcOk.drew ?_) | (with_reducible refine SrcOk.later _ ?_) | (with_reducible refine SrcOk.after _ ?_ ?_) | (dsimp only; omega) | omega | ((try simp only [World.size_alloc, World.size_setCell, World.size_drew]); omega))))).mono ?_); rintro e w' ⟨p3, hdraw, rfl, z3, rfl, hsrc⟩; have hsz3 := z3.btw.size; (try simp only [World.size_alloc, World.size_setCell, World.size_drew] at hsz3); have H3 := Lib.hid hsrc; clear hsrc; obtain ⟨p30, p31⟩ := hdraw)); refine hKP _ _ (LinkC.mk (by exact ⟨by (repeat (first | (with_reducible exact But.refl _ _ _) | (with_reducible refine But.drew ?_) | (with_reducible refine But.drewN ?_ _) | (with_reducible refine But.set ?_ ?_ _) | (with_reducible refine But.after _ ?_) | (with_reducible refine but_later _ ?_) | (with_reducible refine but_alloc ?_ _) | (with_reducible assumption) | (exact .inl rfl) | (exact .inr rfl) | (dsimp only; omega) | omega)), by (first | rfl | assumption | (simp [go_sem, ↓IntWalk.iteOmega, *]; done))⟩)) ?_; clear hKP KP) | (refine plan_skip nth8 rfl rfl (LinkC.mk (by exact ⟨by (repeat (first | (with_reducible exact But.refl _ _ _) | (with_reducible refine But.drew ?_) | (with_reducible refine But.drewN ?_ _) | (with_reducible refine But.set ?_ ?_ _) | (with_reducible refine But.after _ ?_) | (with_reducible refine but_later _ ?_) | (with_reducible refine but_alloc ?_ _) | (with_reducible assumption) | (exact .inl rfl) | (exact .inr rfl) | (dsimp only; omega) | omega)), by (first | rfl | assumption | (simp [go_sem, ↓IntWalk.iteOmega, *]; done))⟩)) ?_; simp only [Act.put, List.setIfInBounds_toArray, List.set_cons_zero, List.set_cons_succ])
    refine plan_nil ?_
    have v1 : w.heap.size < z3.w.heap.size := (by omega)
    have v2 : b < z3.w.heap.size := (by omega)
    by_cases hk0 : kind = 0
    · subst hk0
      go_wp2_with fail
      with_reducible refine (next_any g 3 _ (by (repeat (first | (with_reducible exact H3.out) | (with_reducible refine SrcOk.alloc ?_ _) | (with_reducible refine SrcOk.set ?_ ?_ _) | (with_reducible refine SrcOk.drewN ?_ _) | (with_reducible refine SrcOk.drew ?_) | (with_reducible refine SrcOk.later _ ?_) | (with_reducible refine SrcOk.after _ ?_ ?_) | (dsimp only; omega) | omega | ((try simp only [World.size_alloc, World.size_setCell, World.size_drew]); omega))))).mono ?_
      rintro e w' ⟨p4, hdraw, rfl, z4, rfl, hsrc⟩
      have hsz4 := z4.btw.size
      (try simp only [World.size_alloc, World.size_setCell, World.size_drew] at hsz4)
      have H4 := Lib.hid hsrc
      clear hsrc
      obtain ⟨p40, p41⟩ := hdraw
      have v3 : w.heap.size < z4.w.heap.size := (by omega)
      have v4 : b < z4.w.heap.size := (by omega)
      rcases (show p4 = 0 ∨ p4 = 1 ∨ p4 = 2 by omega) with rfl | rfl | rfl
      all_goals
        go_wp2_with fail
        refine bodyPost_ret (by simp [results, Tryz.results26, go_sem, ↓IntWalk.iteOmega, *]; try rfl) rfl ?_
        refine RetClmD.mk (c := ⟨_, _, _, _, _, _, _⟩) ?hok rfl ?_ ?_
        case hok => exact ⟨k1, k2, (by dsimp only; decide), hf0, hf1⟩
        · have hB := hB0.out
          (repeat (first | (with_reducible exact Between.refl _ _ _) | (with_reducible refine Between.drew ?_) | (with_reducible refine Between.drewN ?_ _) | (with_reducible refine btw_own ?_ ?_ _) | (with_reducible refine btw_later _ ?_) | (with_reducible refine btw_alloc ?_ _) | (with_reducible refine btw_after _ ?_) | (with_reducible refine btw_beyond _ ?_ ?_) | (with_reducible refine Aft.btw _ ?_ ?_) | (with_reducible assumption) | (dsimp only; omega) | omega | ((try simp only [World.size_alloc, World.size_setCell, World.size_drew]); omega)))
        · (repeat (first | (with_reducible exact H4.out) | (with_reducible refine SrcOk.alloc ?_ _) | (with_reducible refine SrcOk.set ?_ ?_ _) | (with_reducible refine SrcOk.drewN ?_ _) | (with_reducible refine SrcOk.drew ?_) | (with_reducible refine SrcOk.later _ ?_) | (with_reducible refine SrcOk.after _ ?_ ?_) | (dsimp only; omega) | omega | ((try simp only [World.size_alloc, World.size_setCell, World.size_drew]); omega)))
    · have hk0' : (kind == 0) = false := by rw [beq_eq_false_iff_ne]; exact hk0
      by_cases hk1 : kind = 1
      · subst hk1
        clear hk0 hk0'
        go_wp2_with fail
        with_reducible refine (next_any g 4 _ (by (repeat (first | (with_reducible exact H3.out) | (with_reducible refine SrcOk.alloc ?_ _) | (with_reducible refine SrcOk.set ?_ ?_ _) | (with_reducible refine SrcOk.drewN ?_ _) | (with_reducible refine SrcOk.drew ?_) | (with_reducible refine SrcOk.later _ ?_) | (with_reducible refine SrcOk.after _ ?_ ?_) | (dsimp only; omega) | omega | ((try simp only [World.size_alloc, World.size_setCell, World.size_drew]); omega))))).mono ?_
        rintro e w' ⟨p4, hdraw, rfl, z4, rfl, hsrc⟩
        have hsz4 := z4.btw.size
        (try simp only [World.size_alloc, World.size_setCell, World.size_drew] at hsz4)
        have H4 := Lib.hid hsrc
        clear hsrc
        obtain ⟨p40, p41⟩ := hdraw
        have v3 : w.heap.size < z4.w.heap.size := (by omega)
        have v4 : b < z4.w.heap.size := (by omega)
        have hq3 : ∃ v, z4.w.cell? ⟨b, 3, none⟩ = some v := ⟨.string val, by simp [go_sem, ↓IntWalk.iteOmega, u1, u2, u3, u4, u5, u6, v1, v2, v3, v4, hbl, q3]⟩
        have hss := fun s t => cell_set2 (w := z4.w) (b := b) (i := 3) hq3 s t
        clear hq3
        rcases (show p4 = 0 ∨ p4 = 1 ∨ p4 = 2 ∨ p4 = 3 by omega) with rfl | rfl | rfl | rfl
        all_goals
          go_wp2_with fail
          all_goals
            refine bodyPost_ret (by simp [results, Tryz.results26, go_sem, ↓IntWalk.iteOmega, *]; try rfl) rfl ?_
            refine RetClmD.mk (c := ⟨_, _, _, _, _, _, _⟩) ?hok rfl ?_ ?_
            case hok => exact ⟨k1, k2, (by dsimp only; decide), hf0, hf1⟩
            · have hB := hB0.out
              (repeat (first | (with_reducible exact Between.refl _ _ _) | (with_reducible refine Between.drew ?_) | (with_reducible refine Between.drewN ?_ _) | (with_reducible refine btw_own ?_ ?_ _) | (with_reducible refine btw_later _ ?_) | (with_reducible refine btw_alloc ?_ _) | (with_reducible refine btw_after _ ?_) | (with_reducible refine btw_beyond _ ?_ ?_) | (with_reducible refine Aft.btw _ ?_ ?_) | (with_reducible assumption) | (dsimp only; omega) | omega | ((try simp only [World.size_alloc, World.size_setCell, World.size_drew]); omega)))
            · (repeat (first | (with_reducible exact H4.out) | (with_reducible refine SrcOk.alloc ?_ _) | (with_reducible refine SrcOk.set ?_ ?_ _) | (with_reducible refine SrcOk.drewN ?_ _) | (with_reducible refine SrcOk.drew ?_) | (with_reducible refine SrcOk.later _ ?_) | (with_reducible refine SrcOk.after _ ?_ ?_) | (dsimp only; omega) | omega | ((try simp only [World.size_alloc, World.size_setCell, World.size_drew]); omega)))
      · have hk1' : (kind == 1) = false := by rw [beq_eq_false_iff_ne]; exact hk1
        go_wp2_with fail
        refine bodyPost_ret (by simp [results, Tryz.results26, go_sem, ↓IntWalk.iteOmega, *]; try rfl) rfl ?_
        refine RetClmD.mk (c := ⟨_, _, _, _, _, _, _⟩) ?hok rfl ?_ ?_
        case hok => exact ⟨k1, k2, k3, hf0, hf1⟩
        · have hB := hB0.out
          (repeat (first | (with_reducible exact Between.refl _ _ _) | (with_reducible refine Between.drew ?_) | (with_reducible refine Between.drewN ?_ _) | (with_reducible refine btw_own ?_ ?_ _) | (with_reducible refine btw_later _ ?_) | (with_reducible refine btw_alloc ?_ _) | (with_reducible refine btw_after _ ?_) | (with_reducible refine btw_beyond _ ?_ ?_) | (with_reducible refine Aft.btw _ ?_ ?_) | (with_reducible assumption) | (dsimp only; omega) | omega | ((try simp only [World.size_alloc, World.size_setCell, World.size_drew]); omega)))
        · (repeat (first | (with_reducible exact H3.out) | (with_reducible refine SrcOk.alloc ?_ _) | (with_reducible refine SrcOk.set ?_ ?_ _) | (with_reducible refine SrcOk.drewN ?_ _) | (with_reducible refine SrcOk.drew ?_) | (with_reducible refine SrcOk.later _ ?_) | (with_reducible refine SrcOk.after _ ?_ ?_) | (dsimp only; omega) | omega | ((try simp only [World.size_alloc, World.size_setCell, World.size_drew]); omega)))
end Go.Proofs.YtfjlilpebhiogaaGreatDoor
