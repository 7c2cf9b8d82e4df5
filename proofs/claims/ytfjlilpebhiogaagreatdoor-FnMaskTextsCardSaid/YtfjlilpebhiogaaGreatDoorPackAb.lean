import Derived.Test.YtfjlilpebhiogaaGreatDoorPackAa
import Derived.Deep.DeepCutAuto
import Derived.Test.YtfjlilpebhiogaaGreatDoorPackA
import Derived.Laws.BytesArg
import Derived.ProofKit
import Derived.OpenShut
import Derived.ChangeOld
import Derived.Deep.Slices
/- Several of my texts, one behind the other: Float, List, ListL, Cells, Ints, Rises, Min, Bits, Cmp, ToI, Mark, Nest, NestR, Open, OpenS, OpenC, LawAre. -/
/- A drawn region in which one operation (the making of a variable's block) may come at any time among the calls. -/
set_option linter.unusedSimpArgs false
set_option linter.unusedVariables false
namespace Go.Proofs.YtfjlilpebhiogaaGreatDoor
open Go.RowKit
section
variable {P : Program} {ops : Array Oper} {C : World → Prop} {Q : Exit → Act → World → Prop}
/-- `f` floats: at each call it may come first. -/
def wpFloat (P : Program) (ops : Array Oper) (C : World → Prop) (Q : Exit → Act → World → Prop) (f : Nat) : List (Nat × Bool) → Act → World → Prop
  | [], a, w => False
  | (i, true) :: r, a, w => ∃ o, ops[i]? = some o ∧ if Region.wanted o (yielded ops a.tmps) then o.quiet P a C (fun a' => wpFloat P ops C Q f r a' w) else wpFloat P ops C Q f r (a.put o.dst undef) w
  | (i, false) :: r, a, w => if i = f then wpOp P ops Q i (fun a' w' => C w' ∧ wpPlan P ops C Q r a' w') a w else
      wpOp P ops Q i (fun a' w' => C w' ∧ wpFloat P ops C Q f r a' w') a w ∧ wpOp P ops Q f (fun a' w' => C w' ∧ wpPlan P ops C Q ((i, false) :: r.filter (fun x => x.1 != f)) a' w') a w
def floatB (ops : Array Oper) (f : Nat) : List (Nat × Bool) → Array Bool → Bool
  | [], listed => false
  | (i, true) :: r, listed => (Region.ready .any ops listed).contains i && Region.free .any ops listed i && ((ops[i]?).map fun o => opQuiet o.op).getD false && floatB ops f r (listed.setIfInBounds i true)
  | (i, false) :: r, listed => if i = f then Region.ready .any ops listed == [i] && planB ops r (listed.setIfInBounds i true) else
      (Region.ready .any ops listed == [i, f] || Region.ready .any ops listed == [f, i]) && floatB ops f r (listed.setIfInBounds i true) && planB ops ((i, false) :: r.filter (fun x => x.1 != f)) (listed.setIfInBounds f true) &&
        (r.filter (fun x => x.1 != f)).length + 1 == r.length
theorem wpAnyH_of_float (f : Nat) (hs : Region.noSelect ops = true) (hQ : ∀ c a (d : Option Tmp) v w, Q (.panic c) (a.put d v) w → Q (.panic c) a w) :
    ∀ (l : List (Nat × Bool)) (listed : Array Bool) (a : Act) (w : World), floatB ops f l listed = true → C w → wpFloat P ops C Q f l a w → wpAnyH P .any ops Q C l.length listed a w
  | [], listed, a, w, hB, _, h => h.elim
  | (i, true) :: r, listed, a, w, hB, hC, h => by
    simp only [floatB, Bool.and_eq_true] at hB
    obtain ⟨⟨⟨h1, h2⟩, h3⟩, h4⟩ := hB
    obtain ⟨o, ho, hh⟩ := h
    simp only [ho, Option.map_some, Option.getD_some] at h3
    by_cases hw : Region.wanted o (yielded ops a.tmps) = true
    · rw [if_pos hw] at hh
      obtain ⟨v, hv, hn⟩ := hh
      refine wpAnyH_take (v := v) ho hs h2 h1 (fun c a w => hQ c a _ v w) (.inl ⟨hw, fun w' hw' => ?_⟩) hC (wpAnyH_of_float f hs hQ r _ _ _ h4 hC hn)
      have := hv w' hw'
      unfold Oper.quietAt at this
      generalize hr : (execOp a.eval o).run P w' = res at this
      cases res with
      | halt x w1 => simp only [Oper.quietUpon] at this
      | ok n w1 =>
        obtain ⟨u, rfl⟩ := value_of_quiet h3 hr
        simp only [Oper.quietUpon] at this
        rw [this.1, this.2]
    · rw [if_neg hw] at hh
      exact wpAnyH_take (v := undef) ho hs h2 h1 (fun c a w => hQ c a _ undef w) (.inr ⟨by simpa using hw, rfl⟩) hC (wpAnyH_of_float f hs hQ r _ _ _ h4 hC hh)
  | (i, false) :: r, listed, a, w, hB, hC, h => by
    by_cases hif : i = f
    · subst hif
      simp only [floatB, if_true, Bool.and_eq_true, beq_iff_eq] at hB
      simp only [wpFloat, if_true] at h
      refine wpAnyH_all hB.1 (by simp) fun j hj => ?_
      obtain rfl : j = i := by simpa using hj
      exact wpOp_mono (fun a' w' hh => ⟨hh.1, wpAnyH_of_plan hs hQ r _ a' w' hB.2 hh.1 hh.2⟩) h
    · simp only [floatB, if_neg hif, Bool.and_eq_true, Bool.or_eq_true, beq_iff_eq] at hB
      simp only [wpFloat, if_neg hif] at h
      obtain ⟨⟨⟨h1, h2⟩, h3⟩, h4⟩ := hB
      have hlen : ((i, false) :: r.filter (fun x => x.1 != f)).length = r.length := by simp only [List.length_cons]; exact h4
      have both : ∀ j, j ∈ Region.ready .any ops listed → j = i ∨ j = f := fun j hj => by
        rcases h1 with h1 | h1 <;> rw [h1] at hj <;> simp at hj <;> omega
      refine wpAnyH_all (rs := Region.ready .any ops listed) rfl (by rcases h1 with h1 | h1 <;> rw [h1] <;> simp) fun j hj => ?_
      rcases both j hj with rfl | rfl
      · exact wpOp_mono (fun a' w' hh => ⟨hh.1, wpAnyH_of_float f hs hQ r _ a' w' h2 hh.1 hh.2⟩) h.1
      · exact wpOp_mono (fun a' w' hh => ⟨hh.1, hlen ▸ wpAnyH_of_plan hs hQ _ _ a' w' h3 hh.1 hh.2⟩) h.2
theorem wp_region_float {id : Nat} {a : Act} {W : World} {l : List Oper} (f : Nat) (pl : List (Nat × Bool)) (hm : P.follows .mixedOrders = true) (hs : Region.noSelect l.toArray = true)
    (hB : floatB l.toArray f pl (Array.replicate l.toArray.size false) = true) (hl : pl.length = l.toArray.size) (hQ : ∀ c a (d : Option Tmp) v w, Q (.panic c) (a.put d v) w → Q (.panic c) a w)
    (hC : C W.drew) (h : wpFloat P l.toArray C Q f pl a W.drew) : (Code.region id l.toArray true).wp P Q a W :=
  wp_region_held hm (hl ▸ wpAnyH_of_float f hs hQ pl _ _ _ hB hC h)
theorem float_quiet {f i : Nat} {r : List (Nat × Bool)} {o : Oper} {a : Act} {w : World} (ho : ops[i]? = some o) (hw : Region.wanted o (yielded ops a.tmps) = true)
    (h : ∀ K : Act → Prop, (∀ a, wpFloat P ops C Q f r a w → K a) → o.quiet P a C K) : wpFloat P ops C Q f ((i, true) :: r) a w :=
  ⟨o, ho, by rw [if_pos hw]; exact h _ fun _ h => h⟩
theorem float_skip {f i : Nat} {r : List (Nat × Bool)} {o : Oper} {a a' : Act} {w : World} (ho : ops[i]? = some o) (hw : Region.wanted o (yielded ops a.tmps) = false) (ha : a.put o.dst undef = a')
    (h : wpFloat P ops C Q f r a' w) : wpFloat P ops C Q f ((i, true) :: r) a w := by
  subst ha
  exact ⟨o, ho, by rw [if_neg (by rw [hw]; decide)]; exact h⟩
theorem op_loud {i : Nat} {o : Oper} {a : Act} {w : World} {K0 : Act → World → Prop} (ho : ops[i]? = some o) (hw : Region.wanted o (yielded ops a.tmps) = true)
    (h : ∀ K : Act → World → Prop, (∀ a w', K0 a w' → K a w') → o.wp P a w K Q) : wpOp P ops Q i K0 a w := by
  unfold wpOp
  rw [ho]
  show if Region.wanted o (yielded ops a.tmps) = true then _ else _
  rw [if_pos hw]
  exact .inl (h _ fun _ _ h1 => h1)
theorem float_fork {f i : Nat} {r : List (Nat × Bool)} {o o' : Oper} {a : Act} {w : World} (hif : (i == f) = false) (ho : ops[i]? = some o) (ho' : ops[f]? = some o') (hw : Region.wanted o (yielded ops a.tmps) = true) (hw' : Region.wanted o' (yielded ops a.tmps) = true)
    (h : ∀ K : Act → World → Prop, (∀ a w', C w' → wpFloat P ops C Q f r a w' → K a w') → o.wp P a w K Q)
    (h' : ∀ K : Act → World → Prop, (∀ a w', C w' → wpPlan P ops C Q ((i, false) :: r.filter (fun x => x.1 != f)) a w' → K a w') → o'.wp P a w K Q) : wpFloat P ops C Q f ((i, false) :: r) a w := by
  simp only [beq_eq_false_iff_ne] at hif
  simp only [wpFloat, if_neg hif]
  exact ⟨op_loud ho hw fun K hK => h K fun a w' h1 h2 => hK a w' ⟨h1, h2⟩, op_loud ho' hw' fun K hK => h' K fun a w' h1 h2 => hK a w' ⟨h1, h2⟩⟩
theorem float_last {f : Nat} {r : List (Nat × Bool)} {o : Oper} {a : Act} {w : World} (ho : ops[f]? = some o) (hw : Region.wanted o (yielded ops a.tmps) = true)
    (h : ∀ K : Act → World → Prop, (∀ a w', C w' → wpPlan P ops C Q r a w' → K a w') → o.wp P a w K Q) : wpFloat P ops C Q f ((f, false) :: r) a w := by
  simp only [wpFloat, if_true]
  exact op_loud ho hw fun K hK => h K fun a w' h1 h2 => hK a w' ⟨h1, h2⟩
end
theorem alloc_cell_if (w : World) (c : Array Value) (t b i : Nat) : (w.alloc (.cells c t)).cell? ⟨b, i, none⟩ = if b < w.heap.size then w.cell? ⟨b, i, none⟩ else if b = w.heap.size then c[i]? else none := by
  by_cases h : b < w.heap.size
  · rw [if_pos h]; exact World.cell?_alloc_lt w _ _ h
  · rw [if_neg h]
    by_cases h2 : b = w.heap.size
    · rw [if_pos h2]; exact World.cell?_alloc_at c t b i h2
    · rw [if_neg h2]
      have : (w.alloc (.cells c t)).heap[b]? = none := Array.getElem?_eq_none (by simp; omega)
      simp [World.cell?, this]
theorem alloc_frozen_if (w : World) (c : Array Value) (t b i : Nat) : (w.alloc (.cells c t)).frozen? ⟨b, i, none⟩ = if b < w.heap.size then w.frozen? ⟨b, i, none⟩ else false := by
  by_cases h : b < w.heap.size
  · rw [if_pos h]; exact World.frozen?_of_block (w := w) (Below.heap_alloc w _ b h)
  · rw [if_neg h]
    by_cases h2 : b = w.heap.size
    · exact World.frozen?_alloc_at c t b i h2
    · have : (w.alloc (.cells c t)).heap[b]? = none := Array.getElem?_eq_none (by simp; omega)
      simp [World.frozen?, this]
attribute [go_sem low] alloc_cell_if alloc_frozen_if
end Go.Proofs.YtfjlilpebhiogaaGreatDoor

/- Lists of claims: the library's search by a function value; are they claims, both sides. -/
set_option linter.unusedSimpArgs false
set_option linter.unusedVariables false
namespace Go.Proofs.YtfjlilpebhiogaaGreatDoor
open Go.RowKit
/-- What a function value must do for a list: tell `p` of each of its claims, whenever it is called later. -/
def Tells (g : Nat) (pre lb : Array Value) (p : Clm → Bool) (L : List Clm) (w : World) : Prop :=
  ∀ c ∈ L, ∀ w' : World, Below w.heap.size w w' → Calls Tryz.prog g (pre.push (clmV c) ++ lb) w' (Ret w' (.bool (p c)))
theorem Tells.bel {g : Nat} {pre lb : Array Value} {p : Clm → Bool} {L : List Clm} {w w1 : World} (h : Tells g pre lb p L w) (hb : Below w.heap.size w w1) : Tells g pre lb p L w1 :=
  fun c hc w' hb' => h c hc w' (hb.trans (hb'.mono hb.size))
end Go.Proofs.YtfjlilpebhiogaaGreatDoor

/- Lists of claims: sizes, copies, comparison for the laws. -/
set_option linter.unusedSimpArgs false
set_option linter.unusedVariables false
namespace Go.Proofs.YtfjlilpebhiogaaGreatDoor
open Go.RowKit
end Go.Proofs.YtfjlilpebhiogaaGreatDoor

/- Cells of bools; when two lists are told to be the same. -/
set_option linter.unusedSimpArgs false
set_option linter.unusedVariables false
namespace Go.Proofs.YtfjlilpebhiogaaGreatDoor
open Go.RowKit
def boolCells (l : List Bool) : List Value := l.map Value.bool
theorem boolCells_get {l : List Bool} {k : Nat} (h : k < l.length) : (boolCells l)[k]? = some (.bool l[k]) := by simp [boolCells, h]
end Go.Proofs.YtfjlilpebhiogaaGreatDoor

/- Slices of int64: their size, copies, comparison, marks. -/
set_option linter.unusedSimpArgs false
set_option linter.unusedVariables false
namespace Go.Proofs.YtfjlilpebhiogaaGreatDoor
open Go.RowKit
def intCells (l : List Int) : List Value := l.map (Value.int .i64)
theorem length_intCells (l : List Int) : (intCells l).length = l.length := by simp [intCells]
theorem intCells_get {l : List Int} {k : Nat} (h : k < l.length) : (intCells l)[k]? = some (.int .i64 l[k]) := by simp [intCells, h]
end Go.Proofs.YtfjlilpebhiogaaGreatDoor

/- Strictly increasing indices; chosen claims: codes, weights. -/
set_option linter.unusedSimpArgs false
set_option linter.unusedVariables false
namespace Go.Proofs.YtfjlilpebhiogaaGreatDoor
open Go.RowKit
/-- The element at `i` is an index below `n` and greater than the one before. -/
def RiseAt (l : List Int) (n : Int) (i : Nat) : Prop := ∃ x, l[i]? = some x ∧ 0 ≤ x ∧ x ≤ n - 1 ∧ ∀ y, 0 < i → l[i - 1]? = some y → y < x
/-- Strictly increasing indices below `n`. -/
def Rises (l : List Int) (n : Int) : Prop := ∀ i, i < l.length → RiseAt l n i
theorem Row.int {w : World} {a : Option Addr} {l : List Int} (h : Row w a (intCells l)) {k : Nat} (hk : k < l.length) : ∃ b o, a = some ⟨b, o, none⟩ ∧ b < w.heap.size ∧ w.cell? ⟨b, o + k, none⟩ = some (.int .i64 l[k]) := by
  obtain ⟨b, o, rfl, hc⟩ := h k _ (intCells_get hk)
  exact ⟨b, o, rfl, World.block_lt_of_cell? w _ hc, hc⟩
end Go.Proofs.YtfjlilpebhiogaaGreatDoor

/- Least sets of indices: the plain law of listing them in order. -/
set_option linter.unusedSimpArgs false
set_option linter.unusedVariables false
namespace Go.Proofs.YtfjlilpebhiogaaGreatDoor
/-- Increasing indices below `n`. -/
structure Ixs (n : Nat) (S : List Int) : Prop where
  inc : S.Pairwise (· < ·)
  bd : ∀ x ∈ S, 0 ≤ x ∧ x < n
theorem Ixs.sub {n : Nat} {S T : List Int} (h : Ixs n T) (hs : S.Sublist T) : Ixs n S := ⟨h.inc.sublist hs, fun x hx => h.bd x (hs.subset hx)⟩
theorem Rises.step {n : Int} {S : List Int} (h : Rises S n) {i : Nat} (hi : i + 1 < S.length) : S[i] < S[i + 1] := by
  obtain ⟨x, h1, _, _, h4⟩ := h (i + 1) hi
  rw [List.getElem?_eq_getElem hi] at h1
  obtain rfl := Option.some.inj h1
  exact h4 _ (by omega) (List.getElem?_eq_getElem (by omega))
theorem Rises.mono {n : Int} {S : List Int} (h : Rises S n) (i : Nat) : ∀ (d : Nat) (hd : i + d + 1 < S.length), S[i] < S[i + d + 1]
  | 0, hd => h.step hd
  | d + 1, hd => by
    have h1 := Rises.mono h i d (by omega)
    have h2 := h.step (i := i + d + 1) (by omega)
    exact Int.lt_trans h1 h2
end Go.Proofs.YtfjlilpebhiogaaGreatDoor

/- Least sets listed by number, then sorted: the same list. -/
set_option linter.unusedSimpArgs false
set_option linter.unusedVariables false
namespace Go.Proofs.YtfjlilpebhiogaaGreatDoor
end Go.Proofs.YtfjlilpebhiogaaGreatDoor

/- Lists of numbers in lexicographic order: the plain law, and slices.Compare. -/
set_option linter.unusedSimpArgs false
set_option linter.unusedVariables false
namespace Go.Proofs.YtfjlilpebhiogaaGreatDoor
open Go.RowKit
end Go.Proofs.YtfjlilpebhiogaaGreatDoor

/- The laws' copies of slices of int64. -/
set_option linter.unusedSimpArgs false
set_option linter.unusedVariables false
namespace Go.Proofs.YtfjlilpebhiogaaGreatDoor
open Go.RowKit
end Go.Proofs.YtfjlilpebhiogaaGreatDoor

/- Marks: texts of numbers, marks over claims and texts. -/
set_option linter.unusedSimpArgs false
set_option linter.unusedVariables false
namespace Go.Proofs.YtfjlilpebhiogaaGreatDoor
open Go.RowKit
end Go.Proofs.YtfjlilpebhiogaaGreatDoor

/- Slices of slices of numbers: rows for reading, rows of one's own; comparison and marks. -/
set_option linter.unusedSimpArgs false
set_option linter.unusedVariables false
namespace Go.Proofs.YtfjlilpebhiogaaGreatDoor
open Go.RowKit
/-- A slice of slices of numbers, for reading. -/
def Rows2 (w : World) (a : Option Addr) (S : List (List Int)) : Prop :=
  ∃ vs : List Value, vs.length = S.length ∧ Row w a vs ∧ ∀ i (h : i < S.length), ∃ ai ci, vs[i]? = some (.slice ai S[i].length ci) ∧ Row w ai (intCells S[i])
theorem Rows2.bel {w w' : World} {a : Option Addr} {S : List (List Int)} (h : Rows2 w a S) (hb : Below w.heap.size w w') : Rows2 w' a S := by
  obtain ⟨vs, h1, h2, h3⟩ := h
  refine ⟨vs, h1, h2.bel hb, fun i hi => ?_⟩
  obtain ⟨ai, ci, h4, h5⟩ := h3 i hi
  exact ⟨ai, ci, h4, h5.bel hb⟩
theorem Rows2.at_ {w : World} {a : Option Addr} {S : List (List Int)} (h : Rows2 w a S) {k : Nat} (hk : k < S.length) :
    ∃ b o ai ci, a = some ⟨b, o, none⟩ ∧ b < w.heap.size ∧ w.cell? ⟨b, o + k, none⟩ = some (.slice ai S[k].length ci) ∧ Row w ai (intCells S[k]) := by
  obtain ⟨vs, h1, h2, h3⟩ := h
  obtain ⟨ai, ci, h4, h5⟩ := h3 k hk
  obtain ⟨b, o, rfl, hc⟩ := h2 k _ h4
  exact ⟨b, o, ai, ci, rfl, World.block_lt_of_cell? w _ hc, hc, h5⟩
theorem Rows2.nil (w : World) (a : Option Addr) : Rows2 w a [] := ⟨[], rfl, Row.nil w a, fun i h => absurd h (by simp)⟩
/-- A slice of slices of one's own: each lies in a block of its own. -/
structure Nest (w : World) (lo hi : Nat) (a : Option Addr) (n c : Nat) (S : List (List Int)) (vs : List Value) : Prop where
  own : Owns w lo hi 108 1 n a c vs
  len : S.length = n
  at_ : ∀ i (h : i < S.length), ∃ ai ci, vs[i]? = some (.slice ai S[i].length ci) ∧ Owns w lo hi 2 1 S[i].length ai ci (intCells S[i])
  sep : vs.Pairwise fun u v => ∀ g, u.ownBlock = some g → v.ownBlock ≠ some g
theorem Nest.vlen {w : World} {lo hi : Nat} {a : Option Addr} {n c : Nat} {S : List (List Int)} {vs : List Value} (h : Nest w lo hi a n c S vs) : vs.length = n := by have := h.own.own.1; omega
theorem Nest.bel {w w' : World} {lo hi B : Nat} {a : Option Addr} {n c : Nat} {S : List (List Int)} {vs : List Value} (h : Nest w lo hi a n c S vs) (hb : Below B w w') (hB : hi ≤ B) : Nest w' lo hi a n c S vs :=
  ⟨h.own.bel hb hB, h.len, fun i hi' => by
    obtain ⟨ai, ci, h1, h2⟩ := h.at_ i hi'
    exact ⟨ai, ci, h1, h2.bel hb hB⟩, h.sep⟩
theorem Nest.btw {w w' : World} {lo hi lo' hi' : Nat} {a : Option Addr} {n c : Nat} {S : List (List Int)} {vs : List Value} (h : Nest w lo hi a n c S vs) (hb : Between lo' hi' w w') (ho : hi ≤ lo' ∨ hi' ≤ lo) : Nest w' lo hi a n c S vs :=
  ⟨h.own.btw hb ho, h.len, fun i hi' => by
    obtain ⟨ai, ci, h1, h2⟩ := h.at_ i hi'
    exact ⟨ai, ci, h1, h2.btw hb ho⟩, h.sep⟩
theorem Owns.wide {w : World} {lo hi hi' e s n : Nat} {a : Option Addr} {c : Nat} {xs : List Value} (h : Owns w lo hi e s n a c xs) (hh : hi ≤ hi') : Owns w lo hi' e s n a c xs := ⟨h.own, fun p hp => Nat.lt_of_lt_of_le (h.lt p hp) hh⟩
theorem Owns.keep {w w' : World} {lo hi g g' e s n : Nat} {a : Option Addr} {c : Nat} {xs : List Value} (h : Owns w lo hi e s n a c xs) (hb : Between g g' w w') (ho : ∀ k, (Value.slice a n c).ownBlock = some k → k < g ∨ g' ≤ k) : Owns w' lo hi e s n a c xs := ⟨own_btw h.own hb ho, h.lt⟩
theorem Owns.elem {w : World} {lo hi e s n k : Nat} {a : Option Addr} {c : Nat} {xs : List Value} (h : Owns w lo hi e s n a c xs) (hk : (Value.slice a n c).ownBlock = some k) : ∃ cur fr, w.heap[k]? = some (.cells cur e fr) := by
  rcases h.own.2 with ⟨hv, hn⟩ | ⟨g, cap, cur, hv, hg, hh, r⟩
  · rw [hv] at hk; simp [Value.ownBlock] at hk
  · rw [hv] at hk
    simp only [Value.ownBlock, Option.some.injEq] at hk
    subst hk
    exact ⟨cur, _, hh⟩
theorem elem_ne {w : World} {k e e' : Nat} {cur cur' : Array Value} {fr fr' : Nat × Nat} (h : w.heap[k]? = some (.cells cur e fr)) (h' : w.heap[k]? = some (.cells cur' e' fr')) : e = e' := by
  rw [h] at h'
  injection h' with h'
  injection h'
theorem Nest.mono {w : World} {lo hi lo' hi' : Nat} {a : Option Addr} {n c : Nat} {S : List (List Int)} {vs : List Value} (h : Nest w lo hi a n c S vs) (h1 : lo' ≤ lo) (h2 : hi ≤ hi') : Nest w lo' hi' a n c S vs :=
  ⟨⟨own_mono h.own.own h1, fun p hp => Nat.lt_of_lt_of_le (h.own.lt p hp) h2⟩, h.len, fun i hi0 => by
    obtain ⟨ai, ci, h3, h4⟩ := h.at_ i hi0
    exact ⟨ai, ci, h3, ⟨own_mono h4.own h1, fun p hp => Nat.lt_of_lt_of_le (h4.lt p hp) h2⟩⟩, h.sep⟩
theorem Nest.nil (w : World) (lo hi : Nat) : Nest w lo hi none 0 0 [] [] :=
  ⟨⟨World.ownsRow_nil _ _ _ _, fun p hp => by cases hp⟩, rfl, fun i hi => absurd hi (by simp), .nil⟩
theorem Nest.empty {w : World} {lo hi : Nat} {a : Option Addr} {c : Nat} (h : Owns w lo hi 108 1 0 a c []) : Nest w lo hi a 0 c [] [] := ⟨h, rfl, fun i hi => absurd hi (by simp), .nil⟩
/-- One slice of one's own in a row of one's own. -/
theorem Nest.lit {w : World} {lo hi : Nat} {a : Option Addr} {c : Nat} {l : List Int} {ai : Option Addr} {ci : Nat} (h : Owns w lo hi 108 1 1 a c [.slice ai l.length ci]) (h2 : Owns w lo hi 2 1 l.length ai ci (intCells l)) :
    Nest w lo hi a 1 c [l] [.slice ai l.length ci] :=
  ⟨h, rfl, fun i hi0 => by
    obtain rfl : i = 0 := by simp at hi0; omega
    exact ⟨ai, ci, rfl, h2⟩, List.pairwise_singleton _ _⟩
theorem Owns.blk_lt {w : World} {lo hi e s n k : Nat} {a : Option Addr} {c : Nat} {xs : List Value} (h : Owns w lo hi e s n a c xs) (hk : (Value.slice a n c).ownBlock = some k) : lo ≤ k ∧ k < hi := by
  cases a with
  | none => simp [Value.ownBlock] at hk
  | some p =>
    simp only [Value.ownBlock, Option.some.injEq] at hk
    subst hk
    exact ⟨h.ge p rfl, h.lt p rfl⟩
/-- append of such slices to such slices. -/
theorem Nest.append {w W x : World} {lo p p' : Nat} {a a2 a' : Option Addr} {n c n2 c2 c' : Nat} {S S2 : List (List Int)} {vs vs2 : List Value} (h : Nest w lo w.heap.size a n c S vs) (hb : Below w.heap.size w W)
    (h2 : Nest W w.heap.size W.heap.size a2 n2 c2 S2 vs2) (hlp : lo ≤ p) (hlw : lo ≤ w.heap.size) (hpp : p' ≤ w.heap.size) (hpb : ∀ k, p ≤ k → k < p' → (Value.slice a n c).ownBlock = some k) (hx : Between p p' W x)
    (hown : x.ownsRow p 108 1 (.slice a' (n + n2) c') (n + n2) (vs ++ vs2)) : Nest x lo x.heap.size a' (n + n2) c' (S ++ S2) (vs ++ vs2) := by
  have l1 := h.len
  have l2 := h2.len
  have v1 := h.vlen
  have v2 := h2.vlen
  have hs1 := hb.size
  have hs2 := hx.size
  refine ⟨⟨own_mono hown hlp, fun q hq => by subst hq; exact (hown.lt q.block rfl).2⟩, by simp [l1, l2], fun i hi => ?_, ?_⟩
  · rw [List.length_append] at hi
    rcases Nat.lt_or_ge i S.length with h3 | h3
    · obtain ⟨ai, ci, h4, h5⟩ := h.at_ i h3
      refine ⟨ai, ci, ?_, ?_⟩
      · rw [List.getElem?_append_left (by omega), h4, List.getElem_append_left h3]
      · rw [List.getElem_append_left h3]
        have h6 := h5.bel hb (Nat.le_refl _)
        refine (h6.keep hx fun k hk => ?_).wide (by omega)
        by_cases h7 : p ≤ k ∧ k < p'
        · obtain ⟨cur, fr, h8⟩ := h5.elem hk
          obtain ⟨cur', fr', h9⟩ := h.own.elem (hpb k h7.1 h7.2)
          exact absurd (elem_ne h8 h9) (by decide)
        · omega
    · obtain ⟨ai, ci, h4, h5⟩ := h2.at_ (i - S.length) (by omega)
      refine ⟨ai, ci, ?_, ?_⟩
      · rw [List.getElem?_append_right (by omega), show vs.length = S.length by omega, h4, List.getElem_append_right h3]
      · rw [List.getElem_append_right h3]
        have h6 := h5.keep hx fun k hk => by have := (h5.blk_lt hk).1; omega
        exact ⟨own_mono h6.own hlw, fun q hq => Nat.lt_of_lt_of_le (h6.lt q hq) hs2⟩
  · rw [List.pairwise_append]
    refine ⟨h.sep, h2.sep, fun u hu v hv g hg hg' => ?_⟩
    obtain ⟨i, hi, rfl⟩ := List.mem_iff_getElem.1 hu
    obtain ⟨j, hj, rfl⟩ := List.mem_iff_getElem.1 hv
    obtain ⟨ai, ci, h4, h5⟩ := h.at_ i (by omega)
    obtain ⟨aj, cj, h6, h7⟩ := h2.at_ j (by omega)
    rw [List.getElem?_eq_getElem hi] at h4
    rw [List.getElem?_eq_getElem hj] at h6
    rw [Option.some.inj h4] at hg
    rw [Option.some.inj h6] at hg'
    have := h5.blk_lt hg
    have := h7.blk_lt hg'
    omega
/-- What a block's cells are of. -/
def Elem (w : World) (g e : Nat) : Prop := ∃ cs fr, w.heap[g]? = some (.cells cs e fr)
theorem Elem.lt {w : World} {g e : Nat} (h : Elem w g e) : g < w.heap.size := by
  obtain ⟨cs, fr, h⟩ := h
  exact (Array.getElem?_eq_some_iff.1 h).1
theorem Elem.bel {w w' : World} {g e : Nat} (h : Elem w g e) (hb : Below w.heap.size w w') : Elem w' g e := by
  have hl := h.lt
  obtain ⟨cs, fr, h⟩ := h
  exact ⟨cs, fr, (hb.block g hl).trans h⟩
theorem Elem.btw {w w' : World} {g e lo hi : Nat} (h : Elem w g e) (hb : Between lo hi w w') (ho : g < lo ∨ hi ≤ g) : Elem w' g e := by
  have hl := h.lt
  obtain ⟨cs, fr, h⟩ := h
  exact ⟨cs, fr, (hb.block g hl ho).trans h⟩
/-- A slice of numbers and a slice of it alone, both just made. -/
theorem Nest.made (W : World) (base : Nat) (hb : base ≤ W.heap.size) (l : List Int) (n : Nat) (hl : l.length = n) (hm : n ≤ maxLen) (cs : Array Value) (hcs : cs.toList = intCells l) :
    Nest ((W.alloc (.cells cs 2)).alloc (.cells #[.slice (some ⟨W.heap.size, 0, none⟩) n n] 108)) base ((W.alloc (.cells cs 2)).alloc (.cells #[.slice (some ⟨W.heap.size, 0, none⟩) n n] 108)).heap.size
      (some ⟨W.heap.size + 1, 0, none⟩) 1 1 [l] [.slice (some ⟨W.heap.size, 0, none⟩) n n] := by
  subst hl
  have hsz : cs.size = l.length := by rw [← Array.length_toList, hcs, length_intCells]
  have h1 := Owns.of (World.ownsRow_lit (base := base) (e := 2) (size := 1) W cs l.length hb hm (by omega))
  have h2 := Owns.of (World.ownsRow_lit (base := base) (e := 108) (size := 1) (W.alloc (.cells cs 2)) #[.slice (some ⟨W.heap.size, 0, none⟩) l.length l.length] 1 (by simp only [World.size_alloc]; omega) (by unfold maxLen; omega) rfl)
  rw [hcs] at h1
  rw [show (W.alloc (.cells cs 2)).heap.size = W.heap.size + 1 by simp only [World.size_alloc]] at h2
  refine Nest.lit h2 ?_
  exact (h1.bel (B := (W.alloc (.cells cs 2)).heap.size) ((Below.refl _ _).alloc (Nat.le_refl _) _) (Nat.le_refl _)).wide (by simp only [World.size_alloc]; omega)
end Go.Proofs.YtfjlilpebhiogaaGreatDoor

/- Slices of slices of numbers as results. -/
set_option linter.unusedSimpArgs false
set_option linter.unusedVariables false
namespace Go.Proofs.YtfjlilpebhiogaaGreatDoor
open Go.RowKit
end Go.Proofs.YtfjlilpebhiogaaGreatDoor

/- What an argument that can be read holds: its cells, by the type's shape. -/
set_option linter.unusedSimpArgs false
set_option linter.unusedVariables false
namespace Go.Proofs.YtfjlilpebhiogaaGreatDoor
open Go.RowKit Go.ChangeShapes Go.WideShapes Go.Deep

/-- Shapes of types: a struct is a chain of pairs that ends in 'unit'. -/
inductive Ty where
  | int (k : IntKind) | bool | string | slice (e : Ty) | pair (a b : Ty) | unit
/-- How many cells. -/
def Ty.cells : Ty → Nat
  | .int _ | .bool | .string | .slice _ => 1
  | .pair a b => a.cells + b.cells
  | .unit => 0
/-- The cells `cs` are a value of this shape, and what they lead to is too. -/
def Good (w : World) : Ty → List Value → Prop
  | .int k, cs => ∃ n, cs = [.int k n] ∧ (Lit.int k n).wf = true
  | .bool, cs => ∃ b, cs = [.bool b]
  | .string, cs => ∃ s : ByteArray, cs = [.string s] ∧ s.size ≤ maxLen
  | .slice e, cs => ∃ (a : Option Addr) (n c : Nat) (xs : List (List Value)), cs = [.slice a n c] ∧ n ≤ c ∧ c ≤ maxLen ∧ xs.length = n ∧ Row w a xs.flatten ∧ ∀ x ∈ xs, x.length = e.cells ∧ Good w e x
  | .pair a b, cs => ∃ c1 c2, cs = c1 ++ c2 ∧ c1.length = a.cells ∧ Good w a c1 ∧ Good w b c2
  | .unit, cs => cs = []
/-- The type has this shape (asked of the program's table). -/
def Ty.okB (P : Program) : Ty → TypeId ⊕ (List Field × Nat) → Bool
  | .int k, .inl t => match P.underlying t with | some (.int k') => k == k' && P.cellsOf t == 1 | _ => false
  | .bool, .inl t => match P.underlying t with | some .bool => P.cellsOf t == 1 | _ => false
  | .string, .inl t => match P.underlying t with | some .string => P.cellsOf t == 1 | _ => false
  | .slice e, .inl t => match P.underlying t with | some (.slice te) => P.cellsOf t == 1 && P.cellsOf te == e.cells && decide (0 < e.cells) && e.okB P (.inl te) | _ => false
  | .pair a b, .inl t => match P.underlying t with
    | some (.struct fs) => match fs.toList with
      | f :: r => f.offset == 0 && P.cellsOf f.type == a.cells && P.cellsOf t == a.cells + b.cells && a.okB P (.inl f.type) && b.okB P (.inr (r, a.cells))
      | [] => false
    | _ => false
  | .pair a b, .inr (f :: r, off) => f.offset == off && P.cellsOf f.type == a.cells && a.okB P (.inl f.type) && b.okB P (.inr (r, off + a.cells))
  | .unit, .inr ([], _) => true
  | _, _ => false
theorem flatten_get {F : Nat → List Value} {k : Nat} (hk : 0 < k) : ∀ (L : List Nat) (j : Nat) (v : Value), (∀ i ∈ L, (F i).length = k) → ((L.map F).flatten)[j]? = some v → ∃ i, L[j / k]? = some i ∧ (F i)[j % k]? = some v
  | [], j, v, _, hh => by simp at hh
  | i :: L, j, v, hall, hh => by
    have hFi := hall i (by simp)
    simp only [List.map_cons, List.flatten_cons] at hh
    by_cases hjk : j < k
    · rw [List.getElem?_append_left (by omega)] at hh
      exact ⟨i, by rw [Nat.div_eq_of_lt hjk]; rfl, by rw [Nat.mod_eq_of_lt hjk]; exact hh⟩
    · rw [List.getElem?_append_right (by omega), hFi] at hh
      obtain ⟨i', h1, h2⟩ := flatten_get hk L (j - k) v (fun i hi => hall i (by simp [hi])) hh
      refine ⟨i', ?_, ?_⟩
      · rw [Nat.div_eq_sub_div (by omega) (by omega)]; simpa using h1
      · rw [Nat.mod_eq_sub_mod (by omega)]; exact h2
section
variable {H : Type} {enc : TypeId × Value → H} {P : Program} {w : World} {base : Nat} {spare : Nat → Bool} {held : Bool}
theorem good_of_trod (ty : Ty) :
    (∀ (t fuel : Nat) (cs : List Value) (x : DataW H × List MemPlace), ty.okB P (.inl t) = true → DataW.trod enc P w base spare held fuel t cs = some x → cs.length = P.cellsOf t ∧ P.cellsOf t = ty.cells ∧ Good w ty cs) ∧
    (∀ (fs : List Field) (off fuel : Nat) (cs : List Value), ty.okB P (.inr (fs, off)) = true → cs.length = off + ty.cells → (∀ f ∈ fs, ∃ y, DataW.trod enc P w base spare held fuel f.type ((cs.drop f.offset).take (P.cellsOf f.type)) = some y) → Good w ty (cs.drop off)) := by
  induction ty with
  | int k =>
    refine ⟨fun t fuel cs x hok h => ?_, fun fs off fuel cs hok => by simp [Ty.okB] at hok⟩
    simp only [Ty.okB] at hok
    split at hok
    · rename_i k' hu
      simp only [Bool.and_eq_true, beq_iff_eq] at hok
      obtain ⟨rfl, hc⟩ := hok
      obtain ⟨n, rfl, _, hwf⟩ := DataW.trod_int hu h
      exact ⟨by rw [hc]; rfl, hc, n, rfl, hwf⟩
    · cases hok
  | bool =>
    refine ⟨fun t fuel cs x hok h => ?_, fun fs off fuel cs hok => by simp [Ty.okB] at hok⟩
    simp only [Ty.okB] at hok
    split at hok
    · rename_i hu
      simp only [beq_iff_eq] at hok
      obtain ⟨b, rfl, _⟩ := DataW.trod_bool hu h
      exact ⟨by rw [hok]; rfl, hok, b, rfl⟩
    · cases hok
  | string =>
    refine ⟨fun t fuel cs x hok h => ?_, fun fs off fuel cs hok => by simp [Ty.okB] at hok⟩
    simp only [Ty.okB] at hok
    split at hok
    · rename_i hu
      simp only [beq_iff_eq] at hok
      obtain ⟨s, rfl, _, hs⟩ := DataW.trod_string hu h
      exact ⟨by rw [hok]; rfl, hok, s, rfl, hs⟩
    · cases hok
  | slice e ih =>
    refine ⟨fun t fuel cs x hok h => ?_, fun fs off fuel cs hok => by simp [Ty.okB] at hok⟩
    simp only [Ty.okB] at hok
    split at hok
    · rename_i te hu
      simp only [Bool.and_eq_true, beq_iff_eq, decide_eq_true_eq] at hok
      obtain ⟨⟨⟨hc, hce⟩, hpos⟩, hoke⟩ := hok
      rcases open_slice hu h with ⟨rfl, _⟩ | ⟨a, len, cap, m, n, D, Pl, rfl, hb, hl, hm, hmm, hx, hi⟩
      · exact ⟨by rw [hc]; rfl, hc, none, 0, 0, [], rfl, Nat.le_refl _, by unfold maxLen; omega, rfl, fun j v hj => by simp at hj, fun x hx => by simp at hx⟩
      · have hlm : len ≤ m := by rw [hmm]; split <;> omega
        have hex : ∀ i : Nat, ∃ cs' : List Value, i < len → cs'.length = e.cells ∧ Good w e cs' ∧ ∀ j, j < e.cells → w.cell? ((a.add (i * e.cells)).add j) = cs'[j]? := by
          intro i
          by_cases hlt : i < len
          · obtain ⟨cs', hcs, ht⟩ := hi i (by omega)
            obtain ⟨_, hlen, hat⟩ := World.cells?_some hcs
            obtain ⟨g1, g2, g3⟩ := ih.1 te n cs' _ hoke ht
            rw [hce] at hlen hat
            exact ⟨cs', fun _ => ⟨hlen, g3, hat⟩⟩
          · exact ⟨[], fun h => absurd h hlt⟩
        obtain ⟨F, hF⟩ := Classical.axiomOfChoice hex
        refine ⟨by rw [hc]; rfl, hc, some a, len, cap, (List.range len).map F, rfl, hl, hm, by simp, ?_, ?_⟩
        · intro j v hj
          obtain ⟨i, h1, h2⟩ := flatten_get hpos (List.range len) j v (fun i hi => (hF i (List.mem_range.1 hi)).1) hj
          have hlt : j / e.cells < len := by
            have := (List.getElem?_eq_some_iff.1 h1).1
            simpa using this
          obtain rfl : i = j / e.cells := by
            have := (List.getElem?_eq_some_iff.1 h1).2
            simpa using this.symm
          have hmod := Nat.mod_lt j hpos
          have hc1 := ((hF _ hlt).2.2 _ hmod).trans h2
          rw [Go.Deep.add_add, Nat.mul_comm, Nat.div_add_mod] at hc1
          have hl0 : 0 < len := Nat.lt_of_le_of_lt (Nat.zero_le _) hlt
          have h00 := (hF 0 hl0).2.2 0 hpos
          have hlen0 := (hF 0 hl0).1
          rw [List.getElem?_eq_getElem (by omega)] at h00
          simp only [Nat.zero_mul, Go.Deep.add_add] at h00
          have hsp : a.spot = none := World.cell?_spot (by simpa [Addr.add] using h00)
          obtain ⟨b, o, sp⟩ := a
          simp only at hsp
          subst hsp
          refine ⟨b, o, rfl, ?_⟩
          by_cases hj0 : j = 0
          · subst hj0; simpa [Addr.add] using hc1
          · simpa [Addr.add, hj0] using hc1
        · intro x hx
          obtain ⟨i, hi', rfl⟩ := List.mem_map.1 hx
          exact ⟨(hF i (List.mem_range.1 hi')).1, (hF i (List.mem_range.1 hi')).2.1⟩
    · cases hok
  | pair a b iha ihb =>
    refine ⟨fun t fuel cs x hok h => ?_, fun fs off fuel cs hok hlen hfs => ?_⟩
    · simp only [Ty.okB] at hok
      split at hok
      · rename_i fs hu
        split at hok
        · rename_i f r hfr
          simp only [Bool.and_eq_true, beq_iff_eq] at hok
          obtain ⟨⟨⟨⟨ho, hfc⟩, hcc⟩, hoka⟩, hokb⟩ := hok
          obtain ⟨xs, n, _, _, hlen, hxl, hg⟩ := DataW.trod_struct hu h
          have hfsz : ∀ (i : Nat) (g : Field), (f :: r)[i]? = some g → fs[i]? = some g := fun i g hi => by rw [← hi, ← hfr, Array.getElem?_toList]
          have hall : ∀ (i : Nat) (g : Field), (f :: r)[i]? = some g → ∃ y, DataW.trod enc P w base spare held n g.type ((cs.drop g.offset).take (P.cellsOf g.type)) = some y := by
            intro i g hi
            have h1 := hg i g (hfsz i g hi)
            have h2 : i < xs.length := by rw [hxl]; exact (Array.getElem?_eq_some_iff.1 (hfsz i g hi)).1
            rw [List.getElem?_eq_getElem h2] at h1
            exact ⟨_, h1⟩
          obtain ⟨y, hy⟩ := hall 0 f rfl
          obtain ⟨g1, g2, g3⟩ := iha.1 f.type n _ y hoka hy
          rw [ho, List.drop_zero] at g1 g3
          rw [hfc] at g1 g3
          have hgb := ihb.2 r a.cells n cs hokb (by rw [hlen, hcc]) (fun g hgm => by
            obtain ⟨i, hi⟩ := List.mem_iff_getElem?.1 hgm
            exact hall (i + 1) g (by simpa using hi))
          exact ⟨hlen, hcc, cs.take a.cells, cs.drop a.cells, (List.take_append_drop _ _).symm, g1, g3, hgb⟩
        · cases hok
      · cases hok
    · cases fs with
      | nil => simp [Ty.okB] at hok
      | cons f r =>
        simp only [Ty.okB, Bool.and_eq_true, beq_iff_eq] at hok
        obtain ⟨⟨⟨ho, hfc⟩, hoka⟩, hokb⟩ := hok
        obtain ⟨y, hy⟩ := hfs f (by simp)
        obtain ⟨g1, g2, g3⟩ := iha.1 f.type fuel _ y hoka hy
        rw [ho] at g1 g3
        rw [hfc] at g1 g3
        have hgb := ihb.2 r (off + a.cells) fuel cs hokb (by rw [hlen]; simp only [Ty.cells]; omega) (fun g hgm => hfs g (by simp [hgm]))
        refine ⟨(cs.drop off).take a.cells, cs.drop (off + a.cells), ?_, g1, g3, hgb⟩
        rw [← List.drop_drop, List.take_append_drop]
  | unit =>
    refine ⟨fun t fuel cs x hok h => by simp [Ty.okB] at hok, fun fs off fuel cs hok hlen hfs => ?_⟩
    show cs.drop off = []
    exact List.drop_eq_nil_of_le (by rw [hlen]; simp [Ty.cells])
/-- An argument that can be read is good. -/
theorem good_of_Trod {ty : Ty} {t : TypeId} {v : Value} {d : DataW H} {p : List MemPlace} (hok : ty.okB P (.inl t) = true) (h : DataW.Trod enc P w base spare held t v d p) : Good w ty v.cells.toList := by
  obtain ⟨fuel, hf⟩ := h
  exact ((good_of_trod ty).1 t fuel _ _ hok hf).2.2
end
theorem own : ownKnob Tryz.prog.godebug = none := by kernel_rfl
theorem laidOut : laidOutB Tryz.prog = true := by kernel_rfl
end Go.Proofs.YtfjlilpebhiogaaGreatDoor

/- The wrap of a row whose world's shape is handed on; values and their cells. -/
set_option linter.unusedSimpArgs false
set_option linter.unusedVariables false
namespace Go.Proofs.YtfjlilpebhiogaaGreatDoor
open Go.RowKit Go.ChangeShapes Go.WideShapes Go.Deep
section
variable {H : Type} {enc : TypeId × Value → H}
/-- The wrap of a row with a further condition on the world, the world's shape handed on to the contract. -/
theorem returns_shaped_and {a : Assume} {C : Checked} {os : Os} {f : FuncId} {fn : Func} {s : ChangeSpec} {conds : List PathCond} {apart fresh handsOn again : Bool} {X : World → Array Value → Prop}
    (hX : ∀ (w w' : World) (args : Array Value), w.heap = w'.heap → X w args → X w' args)
    (own : ownKnob C.prog.godebug = none) (started : os.Started) (noInit : C.prog.inits.idxOf? f = none) (hfn : C.prog.funcs[f]? = some fn)
    (witness : ∃ (w : World) (tape : Tape) (i : Input), w.os = os ∧ (w.forCall tape i).Shaped C.prog ∧ i.vars = [] ∧ Input.okWide C.prog (w.forCall tape i) .any w.heap.size f i ∧
      ((s.pre enc C.prog fn conds apart (w.forCall tape i).memory i.args ∧ X (w.forCall tape i).memory i.args) ∧ sizedMet enc C.prog fn (OpenSpec.ofChange s) apart (w.forCall tape i).memory i.args) ∧ a.holds C.prog (lone (Frame.enter C.prog f i.args .normal) [] (w.forCall tape i)))
    (contract : ∀ (W : World) (base : Nat) (args : Array Value) (ds gs : List (DataW H)) (before : List MemPlace),
      (∀ (j : Nat) t v, fn.params[j]? = some t → args[j]? = some v → Value.okWide C.prog W .any base t v) →
      DataW.Whole enc C.prog fn.params.toList s.vars apart W args.toList ds gs before →
      (DataW.weightsEach C.prog (fn.params.toList ++ s.plain.varTypes C.prog) (ds ++ gs)).all (· ≤ reachBytes) = true → X W args → W.ShapedOpen C.prog →
      Calls C.prog f args W fun e W' => ∃ v, e = .returned v ∧ s.post enc C.prog fn apart fresh handsOn again W args v W') :
    ReturnsInHanded a C os f .any (fun w args => (s.pre enc C.prog fn conds apart w args ∧ X w args) ∧ sizedMet enc C.prog fn (OpenSpec.ofChange s) apart w args) (s.post enc C.prog fn apart fresh handsOn again) := by
  refine returnsInHanded_of_calls own started noInit witness ?_
  intro w tape i _ hshape _ hok hpre hholds
  obtain ⟨_, _, _, fn', hfn', _, _, _, _, hval⟩ := hok
  have e : fn' = fn := Option.some.inj (hfn'.symm.trans hfn)
  subst e
  obtain ⟨⟨⟨ds, gs, before, hw, hc⟩, hx⟩, hz⟩ := hpre
  have hw' := DataW.Whole.of_heap (w' := w.forCall tape i) (by rfl) hw
  refine (contract (w.forCall tape i) w.heap.size i.args ds gs before hval hw' (hz.weights hw) (hX _ _ _ (by rfl) hx) hshape).mono fun e W' ⟨v, he, hp⟩ => ?_
  subst he
  exact ChangeSpec.post_blind hp
end
end Go.Proofs.YtfjlilpebhiogaaGreatDoor

/- Arguments of the laws on claims. -/
set_option linter.unusedSimpArgs false
set_option linter.unusedVariables false
namespace Go.Proofs.YtfjlilpebhiogaaGreatDoor
open Go.RowKit Go.ChangeShapes Go.WideShapes Go.Deep
end Go.Proofs.YtfjlilpebhiogaaGreatDoor

/- The law AreClaims. -/
set_option linter.unusedSimpArgs false
set_option linter.unusedVariables false
namespace Go.Proofs.YtfjlilpebhiogaaGreatDoor
open Go.RowKit
end Go.Proofs.YtfjlilpebhiogaaGreatDoor
