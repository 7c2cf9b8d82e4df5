import Derived.Test.YtkkhjbdnpobpnaaPackMa
import Derived.Deep.DeepCutAuto
/- A drawn region in which one operation (the making of a variable's block) may come at any time among the calls. -/
set_option linter.unusedSimpArgs false
set_option linter.unusedVariables false
namespace Go.Proofs.Ytkkhjbdnpobpnaa
open Go.RowKit
section
variable {P : Program} {ops : Array Oper} {C : World → Prop} {Q : Exit → Act → World → Prop}
/-- `f` floats: at each call it may come first. -/
def wpFloat (P : Program) (ops : Array Oper) (C : World → Prop) (Q : Exit → Act → World → Prop) (f : Nat) : List (Nat × Bool) → Act → World → Prop
  | [], a, w => False
  | (i, true) :: r, a, w => ∃ o, ops[i]? = some o ∧ if Region.wanted o (yielded ops a.tmps) then o.quiet P a C (fun a' => wpFloat P ops C Q f r a' w) else wpFloat P ops C Q f r (a.put o.dst undef) w
  | (i, false) :: r, a, w => if i = f then wpOp P ops Q i (fun a' w' => C w' ∧ wpPlan P ops C Q r a' w') a w else
      wpOp P ops Q i (fun a' w' => C w' ∧ wpFloat P ops C Q f r a' w') a w ∧ wpOp P ops Q f (fun a' w' => C w' ∧ wpPlan P ops C Q ((i, false) :: r.filter (fun x => x.1 != f)) a' w') a w
def floatB (ops : Array Oper) (f : Nat) : List (Nat × Bool) → Array Bool → Bool
  | [], listed => false
  | (i, true) :: r, listed => (Region.ready .any ops listed).contains i && Region.free .any ops listed i && ((ops[i]?).map fun o => opQuiet o.op).getD false && floatB ops f r (listed.setIfInBounds i true)
  | (i, false) :: r, listed => if i = f then Region.ready .any ops listed == [i] && planB ops r (listed.setIfInBounds i true) else
      (Region.ready .any ops listed == [i, f] || Region.ready .any ops listed == [f, i]) && floatB ops f r (listed.setIfInBounds i true) && planB ops ((i, false) :: r.filter (fun x => x.1 != f)) (listed.setIfInBounds f true) &&
        (r.filter (fun x => x.1 != f)).length + 1 == r.length
theorem wpAnyH_of_float (f : Nat) (hs : Region.noSelect ops = true) (hQ : ∀ c a (d : Option Tmp) v w, Q (.panic c) (a.put d v) w → Q (.panic c) a w) :
    ∀ (l : List (Nat × Bool)) (listed : Array Bool) (a : Act) (w : World), floatB ops f l listed = true → C w → wpFloat P ops C Q f l a w → wpAnyH P .any ops Q C l.length listed a w
  | [], listed, a, w, hB, _, h => h.elim
  | (i, true) :: r, listed, a, w, hB, hC, h => by
    simp only [floatB, Bool.and_eq_true] at hB
    obtain ⟨⟨⟨h1, h2⟩, h3⟩, h4⟩ := hB
    obtain ⟨o, ho, hh⟩ := h
    simp only [ho, Option.map_some, Option.getD_some] at h3
    by_cases hw : Region.wanted o (yielded ops a.tmps) = true
    · rw [if_pos hw] at hh
      obtain ⟨v, hv, hn⟩ := hh
      refine wpAnyH_take (v := v) ho hs h2 h1 (fun c a w => hQ c a _ v w) (.inl ⟨hw, fun w' hw' => ?_⟩) hC (wpAnyH_of_float f hs hQ r _ _ _ h4 hC hn)
      have := hv w' hw'
      unfold Oper.quietAt at this
      generalize hr : (execOp a.eval o).run P w' = res at this
      cases res with
      | halt x w1 => simp only [Oper.quietUpon] at this
      | ok n w1 =>
        obtain ⟨u, rfl⟩ := value_of_quiet h3 hr
        simp only [Oper.quietUpon] at this
        rw [this.1, this.2]
    · rw [if_neg hw] at hh
      exact wpAnyH_take (v := undef) ho hs h2 h1 (fun c a w => hQ c a _ undef w) (.inr ⟨by simpa using hw, rfl⟩) hC (wpAnyH_of_float f hs hQ r _ _ _ h4 hC hh)
  | (i, false) :: r, listed, a, w, hB, hC, h => by
    by_cases hif : i = f
    · subst hif
      simp only [floatB, if_true, Bool.and_eq_true, beq_iff_eq] at hB
      simp only [wpFloat, if_true] at h
      refine wpAnyH_all hB.1 (by simp) fun j hj => ?_
      obtain rfl : j = i := by simpa using hj
      exact wpOp_mono (fun a' w' hh => ⟨hh.1, wpAnyH_of_plan hs hQ r _ a' w' hB.2 hh.1 hh.2⟩) h
    · simp only [floatB, if_neg hif, Bool.and_eq_true, Bool.or_eq_true, beq_iff_eq] at hB
      simp only [wpFloat, if_neg hif] at h
      obtain ⟨⟨⟨h1, h2⟩, h3⟩, h4⟩ := hB
      have hlen : ((i, false) :: r.filter (fun x => x.1 != f)).length = r.length := by simp only [List.length_cons]; exact h4
      have both : ∀ j, j ∈ Region.ready .any ops listed → j = i ∨ j = f := fun j hj => by
        rcases h1 with h1 | h1 <;> rw [h1] at hj <;> simp at hj <;> omega
      refine wpAnyH_all (rs := Region.ready .any ops listed) rfl (by rcases h1 with h1 | h1 <;> rw [h1] <;> simp) fun j hj => ?_
      rcases both j hj with rfl | rfl
      · exact wpOp_mono (fun a' w' hh => ⟨hh.1, wpAnyH_of_float f hs hQ r _ a' w' h2 hh.1 hh.2⟩) h.1
      · exact wpOp_mono (fun a' w' hh => ⟨hh.1, hlen ▸ wpAnyH_of_plan hs hQ _ _ a' w' h3 hh.1 hh.2⟩) h.2
theorem wp_region_float {id : Nat} {a : Act} {W : World} {l : List Oper} (f : Nat) (pl : List (Nat × Bool)) (hm : P.follows .mixedOrders = true) (hs : Region.noSelect l.toArray = true)
    (hB : floatB l.toArray f pl (Array.replicate l.toArray.size false) = true) (hl : pl.length = l.toArray.size) (hQ : ∀ c a (d : Option Tmp) v w, Q (.panic c) (a.put d v) w → Q (.panic c) a w)
    (hC : C W.drew) (h : wpFloat P l.toArray C Q f pl a W.drew) : (Code.region id l.toArray true).wp P Q a W :=
  wp_region_held hm (hl ▸ wpAnyH_of_float f hs hQ pl _ _ _ hB hC h)
theorem float_quiet {f i : Nat} {r : List (Nat × Bool)} {o : Oper} {a : Act} {w : World} (ho : ops[i]? = some o) (hw : Region.wanted o (yielded ops a.tmps) = true)
    (h : ∀ K : Act → Prop, (∀ a, wpFloat P ops C Q f r a w → K a) → o.quiet P a C K) : wpFloat P ops C Q f ((i, true) :: r) a w :=
  ⟨o, ho, by rw [if_pos hw]; exact h _ fun _ h => h⟩
theorem float_skip {f i : Nat} {r : List (Nat × Bool)} {o : Oper} {a a' : Act} {w : World} (ho : ops[i]? = some o) (hw : Region.wanted o (yielded ops a.tmps) = false) (ha : a.put o.dst undef = a')
    (h : wpFloat P ops C Q f r a' w) : wpFloat P ops C Q f ((i, true) :: r) a w := by
  subst ha
  exact ⟨o, ho, by rw [if_neg (by rw [hw]; decide)]; exact h⟩
theorem op_loud {i : Nat} {o : Oper} {a : Act} {w : World} {K0 : Act → World → Prop} (ho : ops[i]? = some o) (hw : Region.wanted o (yielded ops a.tmps) = true)
    (h : ∀ K : Act → World → Prop, (∀ a w', K0 a w' → K a w') → o.wp P a w K Q) : wpOp P ops Q i K0 a w := by
  unfold wpOp
  rw [ho]
  show if Region.wanted o (yielded ops a.tmps) = true then _ else _
  rw [if_pos hw]
  exact .inl (h _ fun _ _ h1 => h1)
theorem float_fork {f i : Nat} {r : List (Nat × Bool)} {o o' : Oper} {a : Act} {w : World} (hif : (i == f) = false) (ho : ops[i]? = some o) (ho' : ops[f]? = some o') (hw : Region.wanted o (yielded ops a.tmps) = true) (hw' : Region.wanted o' (yielded ops a.tmps) = true)
    (h : ∀ K : Act → World → Prop, (∀ a w', C w' → wpFloat P ops C Q f r a w' → K a w') → o.wp P a w K Q)
    (h' : ∀ K : Act → World → Prop, (∀ a w', C w' → wpPlan P ops C Q ((i, false) :: r.filter (fun x => x.1 != f)) a w' → K a w') → o'.wp P a w K Q) : wpFloat P ops C Q f ((i, false) :: r) a w := by
  simp only [beq_eq_false_iff_ne] at hif
  simp only [wpFloat, if_neg hif]
  exact ⟨op_loud ho hw fun K hK => h K fun a w' h1 h2 => hK a w' ⟨h1, h2⟩, op_loud ho' hw' fun K hK => h' K fun a w' h1 h2 => hK a w' ⟨h1, h2⟩⟩
theorem float_last {f : Nat} {r : List (Nat × Bool)} {o : Oper} {a : Act} {w : World} (ho : ops[f]? = some o) (hw : Region.wanted o (yielded ops a.tmps) = true)
    (h : ∀ K : Act → World → Prop, (∀ a w', C w' → wpPlan P ops C Q r a w' → K a w') → o.wp P a w K Q) : wpFloat P ops C Q f ((f, false) :: r) a w := by
  simp only [wpFloat, if_true]
  exact op_loud ho hw fun K hK => h K fun a w' h1 h2 => hK a w' ⟨h1, h2⟩
end
theorem alloc_cell_if (w : World) (c : Array Value) (t b i : Nat) : (w.alloc (.cells c t)).cell? ⟨b, i, none⟩ = if b < w.heap.size then w.cell? ⟨b, i, none⟩ else if b = w.heap.size then c[i]? else none := by
  by_cases h : b < w.heap.size
  · rw [if_pos h]; exact World.cell?_alloc_lt w _ _ h
  · rw [if_neg h]
    by_cases h2 : b = w.heap.size
    · rw [if_pos h2]; exact World.cell?_alloc_at c t b i h2
    · rw [if_neg h2]
      have : (w.alloc (.cells c t)).heap[b]? = none := Array.getElem?_eq_none (by simp; omega)
      simp [World.cell?, this]
theorem alloc_frozen_if (w : World) (c : Array Value) (t b i : Nat) : (w.alloc (.cells c t)).frozen? ⟨b, i, none⟩ = if b < w.heap.size then w.frozen? ⟨b, i, none⟩ else false := by
  by_cases h : b < w.heap.size
  · rw [if_pos h]; exact World.frozen?_of_block (w := w) (Below.heap_alloc w _ b h)
  · rw [if_neg h]
    by_cases h2 : b = w.heap.size
    · exact World.frozen?_alloc_at c t b i h2
    · have : (w.alloc (.cells c t)).heap[b]? = none := Array.getElem?_eq_none (by simp; omega)
      simp [World.frozen?, this]
attribute [go_sem low] alloc_cell_if alloc_frozen_if
end Go.Proofs.Ytkkhjbdnpobpnaa
